/- Contracts: strings.Cut, strings.Split, strings.HasPrefix, strings.Count of one byte, strconv.Atoi. Conditions: those of each statement (bounds on lengths). -/
import Derived.Test.YtlapbaiejnaeiaaGreatDoorMd
import Derived.Test.YtlapbaiejnaeiaaGreatDoorMc
import Derived.Test.YtlapbaiejnaeiaaGreatDoorXa
import Derived.Test.YtlapbaiejnaeiaaGreatDoorMh
import Derived.Lib.UnsafeStr
import Derived.Test.YtlapbaiejnaeiaaGreatDoorMy
import Derived.Test.YtlapbaiejnaeiaaGreatDoorPf
import Derived.Test.YtlapbaiejnaeiaaGreatDoorPa
import Derived.Test.YtlapbaiejnaeiaaGreatDoorMk
set_option linter.unusedSimpArgs false
set_option linter.unusedVariables false
namespace Go.Proofs.YtlapbaiejnaeiaaGreatDoor
open Go Go.RowKit
instance : HasU Tryz.prog 72 (.interface (Tryz.prog.methodsAt 72)) := ⟨by kernel_rfl⟩
theorem Oi : Tryz.prog.globalNamed "internal/bytealg.MaxLen" = some 0 := by kernel_rfl
theorem Wb : Tryz.prog.globalNamed "strconv.ErrSyntax" = some 1 := by kernel_rfl
theorem Wa : Tryz.prog.globalNamed "strconv.ErrRange" = some 2 := by kernel_rfl
theorem Y8 (s sep : ByteArray) (hs : s.size < 4294967281) : Fn0 Tryz.prog 34 [.s s, .s sep] (.tup [.s ⟨(Lib.cut s.data.toList sep.data.toList).1.toArray⟩, .s ⟨(Lib.cut s.data.toList sep.data.toList).2.1.toArray⟩, .b (Lib.cut s.data.toList sep.data.toList).2.2]) := by
 refine ⟨⟨_, Tryz.func34, rfl, rfl⟩, fun L w vs hG hL hl hv => ?_⟩
 match vs, hl with
 | [u, v], _ =>
  obtain rfl := (hv 0 (.s s) u rfl rfl).val_eq
  obtain rfl := (hv 1 (.s sep) v rfl rfl).val_eq
  obtain ⟨m, hm⟩ := hG.len _ Oi
  refine (Tryz.strings_Cut s sep m w hs hm).mono ?_
  rintro e w' ⟨rfl, n, rfl⟩
  refine ⟨_, rfl, .tup _ [_, _, _] rfl (fun i x v hx hv => ?_), ?_⟩
  ·match i with
   | 0 => simp at hx hv;subst hx hv;exact A5 _
   | 1 => simp at hx hv;subst hx hv;exact A5 _
   | 2 => simp at hx hv;subst hx hv;exact A5 _
   | i + 3 => simp at hx
  ·exact ⟨rfl, rfl, rfl, Nat.le_refl _, fun i hi => rfl⟩
theorem Nn (s p : ByteArray) : Fn0 Tryz.prog 37 [.s s, .s p] (.b (Lib.hasPrefix s.data.toList p.data.toList)) := by
 refine ⟨⟨_, Tryz.func37, rfl, rfl⟩, fun L w vs hG hL hl hv => ?_⟩
 match vs, hl with
 | [u, v], _ =>
  obtain rfl := (hv 0 (.s s) u rfl rfl).val_eq
  obtain rfl := (hv 1 (.s p) v rfl rfl).val_eq
  refine (Tryz.strings_HasPrefix s p w).mono ?_
  rintro e w' ⟨rfl, rfl⟩
  exact ⟨_, rfl, A5 _, ⟨rfl, rfl, rfl, Nat.le_refl _, fun i hi => rfl⟩⟩
theorem V7 (s : ByteArray) (c : UInt8) : Fn0 Tryz.prog 17 [.s s, .s ⟨#[c]⟩] (.i (Lib.countByte s.data.toList c)) := by
 refine ⟨⟨_, Tryz.func17, rfl, rfl⟩, fun L w vs hG hL hl hv => ?_⟩
 match vs, hl with
 | [u, v], _ =>
  obtain rfl := (hv 0 (.s s) u rfl rfl).val_eq
  obtain rfl := (hv 1 (.s ⟨#[c]⟩) v rfl rfl).val_eq
  refine (Tryz.strings_Count_one s c w).mono ?_
  rintro e w' ⟨rfl, rfl⟩
  exact ⟨_, rfl, A5 _, ⟨rfl, rfl, rfl, Nat.le_refl _, fun i hi => rfl⟩⟩
def Cm (s sep : ByteArray) : List ByteArray := Lib.splitB sep 0 (Lib.countB s sep) s
theorem Ju (s sep : ByteArray) : (Cm s sep).map (·.data.toList) = Lib.split s.data.toList sep.data.toList := Lib.splitB_data _ _ _ _
theorem T6 (s sep : ByteArray) (h1 : 1 <= sep.size) : (Cm s sep).length = Lib.countB s sep + 1 := Lib.splitB_all sep h1 0 _ s rfl
theorem Vk {s sep w : ByteArray} (h : w ∈ Cm s sep) : w.size <= s.size := by
 have h1 : w.data.toList ∈ Lib.split s.data.toList sep.data.toList := by rw [<- Ju];exact List.mem_map.2 ⟨w, h, rfl⟩
 have := X8 h1
 rw [Array.length_toList, Array.length_toList] at this
 exact this
theorem V8 (s sep : ByteArray) (hs : s.size < 4294967281) (h1 : 1 <= sep.size) : Fn0 Tryz.prog 35 [.s s, .s sep] (.sl ((Cm s sep).map fun x => [.s x])) := by
 refine ⟨⟨_, Tryz.func35, rfl, rfl⟩, fun L w vs hG hL hl hv => ?_⟩
 match vs, hl with
 | [u, v], _ =>
  obtain rfl := (hv 0 (.s s) u rfl rfl).val_eq
  obtain rfl := (hv 1 (.s sep) v rfl rfl).val_eq
  obtain ⟨m, hm⟩ := hG.len _ Oi
  refine (Tryz.strings_Split s sep m w hs hm h1).mono ?_
  rintro e w' ⟨rfl, rfl⟩
  have hlen := T6 s sep h1
  have hcell : ∀ (i : Nat) (x : ByteArray), (Cm s sep)[i]? = some x -> (w.alloc (.cells ((Lib.splitB sep 0 (Lib.countB s sep) s).map Value.string).toArray 9)).cell? ⟨w.heap.size, 0 + (i * 1 + 0), none⟩ = some (.string x) := fun i x hx => by
   have h0 : (w.alloc (.cells ((Lib.splitB sep 0 (Lib.countB s sep) s).map Value.string).toArray 9)).heap[w.heap.size]? = some (.cells ((Lib.splitB sep 0 (Lib.countB s sep) s).map Value.string).toArray 9 (0, 0)) := Ay _ _
   refine B7 h0 ?_
   rw [List.getElem?_toArray, List.getElem?_map, Nat.zero_add]
   have hx' : (Lib.splitB sep 0 (Lib.countB s sep) s)[i * 1 + 0]? = some x := by simpa [Cm] using hx
   rw [hx'];rfl
  have hb : Below w.heap.size w (w.alloc (.cells ((Lib.splitB sep 0 (Lib.countB s sep) s).map Value.string).toArray 9)) := (Below.refl _ _).alloc (Nat.le_refl _) _
  refine ⟨_, rfl, .lf _ _ ?_, hb⟩
  have hl2 : ((Cm s sep).map fun x => [Lf.s x]).length = Lib.countB s sep + 1 := by rw [List.length_map, hlen]
  rw [<- hl2]
  have hrow : ∀ (i : Nat) (row : List Lf) (j : Nat) (x : Lf), ((Cm s sep).map fun x => [Lf.s x])[i]? = some row -> row[j]? = some x -> ∃ y, (Cm s sep)[i]? = some y /\ j = 0 /\ x = Lf.s y /\ row.length = 1 := fun i row j x hi hj => by
   rw [List.getElem?_map] at hi
   cases hy : (Cm s sep)[i]? with
   | none => rw [hy] at hi;cases hi
   | some y =>
    rw [hy] at hi
    simp only [Option.map_some, Option.some.injEq] at hi
    subst hi
    cases j with
    | zero => simp at hj;exact ⟨y, rfl, rfl, hj.symm, rfl⟩
    | succ j => simp at hj
  refine .sl _ ⟨w.heap.size, 0, none⟩ _ (fun i _ => .string ((Cm s sep).getD i ⟨#[]⟩)) (.inl rfl) (Nat.le_refl _) (fun i row j x hi hj => ?_) (fun i row j x hi hj => ?_)
  ·obtain ⟨y, hy, rfl, rfl, hr⟩ := hrow i row j x hi hj
   refine ⟨fun hf => ?_, ?_⟩
   ·exact absurd (hL _ ((Cu L _).1 hf)) (Nat.lt_irrefl _)
   ·rw [hr]
    have := hcell i y hy
    rw [this, List.getD_eq_getElem?_getD, hy];rfl
  ·obtain ⟨y, hy, rfl, rfl, hr⟩ := hrow i row j x hi hj
   rw [List.getD_eq_getElem?_getD, hy]
   exact .val _
theorem Qr (s : ByteArray) (hs : s.size <= 281474976710656) {v : Int} (h : Lib.atoiAll s.data.toList = .ok v) : Fn0 Tryz.prog 36 [.s s] (.tup [.i v, .val .nilIface]) := by
 refine ⟨⟨_, Tryz.func36, rfl, rfl⟩, fun L w vs hG hL hl hv => ?_⟩
 match vs, hl with
 | [u], _ =>
  obtain rfl := (hv 0 (.s s) u rfl rfl).val_eq
  refine (Tryz.strconv_Atoi_ok s (by omega) v h w).mono ?_
  rintro e w' ⟨rfl, hw⟩
  refine ⟨_, rfl, .tup _ [_, _] rfl (fun i x v hx hv => ?_), ?_⟩
  ·match i with
   | 0 => simp at hx hv;subst hx hv;exact A5 _
   | 1 => simp at hx hv;subst hx hv;exact A5 _
   | i + 2 => simp at hx
  ·rcases hw with rfl | ⟨t, rfl⟩
   ·exact ⟨rfl, rfl, rfl, Nat.le_refl _, fun i hi => rfl⟩
   ·exact Lib.below_freeze (((Below.refl _ _).drew).alloc (Nat.le_refl _) _) (Nat.le_refl _) _
theorem Pp (s : ByteArray) (hs : s.size <= 281474976710656) (h : ∀ v, Lib.atoiAll s.data.toList ≠ .ok v) : ∃ n : Int, (-9223372036854775808 <= n /\ n <= 9223372036854775807) /\ Fn0 Tryz.prog 36 [.s s] (.tup [.i n, .err]) := by
 have two : ∀ {w' : World} {L : Nat -> Prop} {n : Int} {t : TypeId} {p : Value}, RelV w' L Am (.tup [.i n, .err]) (.tuple #[.int .i64 n, .iface t p]) := fun {w' L n t p} => .tup _ [_, _] rfl fun i x v hx hv => by
  match i with
  | 0 => simp at hx hv;subst hx hv;exact A5 _
  | 1 => simp at hx hv;subst hx hv;exact .err _ _
  | i + 2 => simp at hx
 cases h0 : Lib.atoiAll s.data.toList with
 | ok v => exact absurd h0 (h v)
 | range =>
  refine ⟨Lib.atoiSat s.data.toList, by unfold Lib.atoiSat;split <;> omega, ⟨⟨_, Tryz.func36, rfl, rfl⟩, fun L w vs hG hL hl hv => ?_⟩⟩
  match vs, hl with
  | [u], _ =>
   obtain rfl := (hv 0 (.s s) u rfl rfl).val_eq
   obtain ⟨ev, h1, h2⟩ := hG.ran _ Wa
   refine (Tryz.strconv_Atoi_range s (by omega) h0 ev w h1 h2).mono ?_
   rintro e w' ⟨N, rfl, _, _, hb⟩
   exact ⟨_, rfl, two, hb⟩
 | _ =>
  refine ⟨0, by omega, ⟨⟨_, Tryz.func36, rfl, rfl⟩, fun L w vs hG hL hl hv => ?_⟩⟩
  match vs, hl with
  | [u], _ =>
   obtain rfl := (hv 0 (.s s) u rfl rfl).val_eq
   obtain ⟨ev, h1, h2⟩ := hG.syn _ Wb
   refine (Tryz.strconv_Atoi_syntax s (by omega) (h0.trans rfl) ev w h1 h2).mono ?_
   rintro e w' ⟨N, rfl, _, _, hb⟩
   exact ⟨_, rfl, two, hb⟩
theorem Jz (a b : List UInt8) : Lib.byteCells (a ++ b) = Lib.byteCells a ++ Lib.byteCells b := by simp [Lib.byteCells]
theorem Nc (a : List UInt8) : (Lib.byteCells a).length = a.length := by simp [Lib.byteCells]
theorem Qp (l : List UInt8) : FnRead Tryz.prog 70 5 33 (Lib.byteCells l) (.string (ofL l)) := by
 refine ⟨⟨_, Tryz.func33, rfl, rfl⟩, fun w k B hB hs => ?_⟩
 refine (Tryz.Builder_String_any_f B k l w (hB.f (by kernel_rfl)) hs).mono ?_
 rintro e w' ⟨rfl, _, hb⟩
 exact ⟨rfl, hb⟩
abbrev Yc (b2 : Nat) (l : List UInt8) : HB := .bld 70 5 b2 (Lib.byteCells l)
theorem Mg (str : ByteArray) (l : List UInt8) (hlen : l.length + str.size <= 140737488355328) : FnBld Tryz.prog 70 5 31 [.s str] (Lib.byteCells l) (Lib.byteCells (l ++ str.data.toList)) (.tup [.i str.size, .val .nilIface]) := by
 refine ⟨⟨_, Tryz.func31, rfl, rfl⟩, fun L w k p v vs hG hL hl hv hB => ?_⟩
 match vs, hl with
 | [u], _ =>
  obtain rfl := (hv 0 (.s str) u rfl rfl).val_eq
  refine (Lq str hB (by rw [Nc];exact hlen)).mono ?_
  rintro e w' ⟨rfl, ⟨v', hB', hg⟩, h1, h2, h3, h4, h5, h6⟩
  refine ⟨_, rfl, .tup _ [_, _] rfl (fun i x v hx hv => ?_), ⟨.pointer (some ⟨k, 0, none⟩), v', ?_, hg⟩, ⟨h2, h3, h4, h5, fun j hj hn => h1 j hj (fun e => hn (.inl e)) (fun e => hn (.inr e)), h6⟩⟩
  ·match i with
   | 0 => simp at hx hv;subst hx hv;exact A5 _
   | 1 => simp at hx hv;subst hx hv;exact A5 _
   | i + 2 => simp at hx
  ·rw [Jz];exact hB'
def A8 (x : ConR) : List ByteArray := [x.a, x.b, Ad x.lo, Ad x.hi]
def Ak (x : ConR) : List (List UInt8) := (A8 x).map (·.data.toList)
def Cy (lo hi : Int) : Prop := (0 <= lo /\ lo <= 1125899906842624) /\ (hi = lo \/ hi = lo + 1)
instance (lo hi : Int) : Decidable (Cy lo hi) := by unfold Cy;exact inferInstance
def A9 (x : ConR) : Prop := B9 x.a = true /\ B9 x.b = true /\ Cy x.lo x.hi
instance (x : ConR) : Decidable (A9 x) := by unfold A9;exact inferInstance
def Aa (l : List ConR) : List UInt8 := bytesOf (l.map A8)
theorem Bc (x : ConR) (l : List ConR) : Aa (x :: l) = Aw (A8 x) ++ Aa l := rfl
theorem Fq (l m : List ConR) : Aa (l ++ m) = Aa l ++ Aa m := by unfold Aa;rw [List.map_append, Nw]
theorem Na (x : ConR) : Aa [x] = Aw (A8 x) := by unfold Aa bytesOf;simp
theorem Ix : Aa [] = [] := rfl
def Ce (s : List UInt8) (l : List ConR) : Prop := s = Aa l /\ (∀ x ∈ l, A9 x) /\ l.length <= 1000
theorem Ou {c : UInt8} (hc : c.toNat < 45) (n : Int) : c ∉ Lib.itoa n := by
 unfold Lib.itoa
 split
 ·intro h
  rcases List.mem_cons.1 h with h | h
  ·subst h;exact absurd hc (by decide)
  ·have := Fu _ _ h;omega
 ·intro h
  have := Fu _ _ h;omega
theorem P6 {s : ByteArray} (h : B9 s = true) {c : UInt8} (hc : ¬ Cv c.toNat) : c ∉ s.data.toList := by
 simp only [B9, Bool.and_eq_true, decide_eq_true_eq] at h
 obtain ⟨_, hw⟩ := h
 intro h10
 have hl : s.data.toList.takeWhile (fun c => decide (Cv c.toNat)) = s.data.toList := by
  refine (List.takeWhile_prefix _).eq_of_length ?_
  have : (Bo s : Int) = s.size := hw
  unfold Bo at this
  rw [Array.length_toList]
  exact Int.ofNat.inj this
 have ha := List.all_takeWhile (p := fun c : UInt8 => decide (Cv c.toNat)) (l := s.data.toList)
 rw [hl] at ha
 have := List.all_eq_true.1 ha c h10
 exact hc (of_decide_eq_true this)
theorem Gx {x : ConR} (h : A9 x) {c : UInt8} (hc : c = 32 \/ c = 10) : ∀ w ∈ Ak x, c ∉ w := by
 intro w hw
 simp only [Ak, A8, List.map_cons, List.map_nil, List.mem_cons, List.not_mem_nil, or_false] at hw
 have c1 : c.toNat < 45 := by rcases hc with rfl | rfl <;> decide
 have c2 : ¬ Cv c.toNat := by rcases hc with rfl | rfl <;> decide
 rcases hw with rfl | rfl | rfl | rfl
 ·exact P6 h.1 c2
 ·exact P6 h.2.1 c2
 ·exact Ou c1 _
 ·exact Ou c1 _
theorem He (x : ConR) : Aw (A8 x) = Lib.join (Ak x) [32] ++ [10] := rfl
theorem Xy {x : ConR} (h : A9 x) : (10 : UInt8) ∉ Lib.join (Ak x) [32] := Kq _ (Gx h (.inr rfl))
theorem Ee {x : ConR} (h : A9 x) (t : List UInt8) : Lib.cut (Aw (A8 x) ++ t) [10] = (Lib.join (Ak x) [32], t, true) := by
 rw [He, List.append_assoc]
 exact Xp (Xy h)
theorem E9 {x : ConR} (h : A9 x) : Lib.split (Lib.join (Ak x) [32]) [32] = Ak x := Lh _ (by simp [Ak, A8]) (Gx h (.inl rfl))
theorem Ec {x : ConR} (h : A9 x) : (-9223372036854775808 <= x.lo /\ x.lo <= 9223372036854775807) /\ (-9223372036854775808 <= x.hi /\ x.hi <= 9223372036854775807) := by
 obtain ⟨_, _, h1, h2⟩ := h
 omega
theorem Qz {x y : ConR} (hx : A9 x) (hy : A9 y) (h : Ak x = Ak y) : x = y := by
 simp only [Ak, A8, List.map_cons, List.map_nil, List.cons.injEq, and_true] at h
 obtain ⟨h1, h2, h3, h4⟩ := h
 obtain ⟨a1, a2⟩ := Ec hx
 obtain ⟨b1, b2⟩ := Ec hy
 have e3 := Ot a1.1 a1.2 b1.1 b1.2 h3
 have e4 := Ot a2.1 a2.2 b2.1 b2.2 h4
 have e1 := Bl h1
 have e2 := Bl h2
 cases x;cases y
 simp only at e1 e2 e3 e4
 subst e1 e2 e3 e4
 rfl
theorem Pu : ∀ {l m : List ConR}, (∀ x ∈ l, A9 x) -> (∀ x ∈ m, A9 x) -> Aa l = Aa m -> l = m
 | [], [], _, _, _ => rfl
 | [], y :: m, _, hm, h => by
  rw [Bc, He] at h
  exact absurd (congrArg List.length h) (by simp [Ix])
 | x :: l, [], hl, _, h => by
  rw [Bc, He] at h
  exact absurd (congrArg List.length h) (by simp [Ix])
 | x :: l, y :: m, hl, hm, h => by
  rw [Bc, Bc] at h
  have h1 := Ee (hl x (by simp)) (Aa l)
  rw [h, Ee (hm y (by simp))] at h1
  simp only [Prod.mk.injEq, and_true] at h1
  have h2 := E9 (hl x (by simp))
  rw [<- h1.1, E9 (hm y (by simp))] at h2
  rw [Qz (hl x (by simp)) (hm y (by simp)) h2.symm, Pu (fun z hz => hl z (by simp [hz])) (fun z hz => hm z (by simp [hz])) h1.2.symm]
theorem Wc {s : List UInt8} {l m : List ConR} (hl : Ce s l) (hm : Ce s m) : l = m := Pu hl.2.1 hm.2.1 (hl.1.symm.trans hm.1)
open Classical in
noncomputable def Fm (s : List UInt8) : List ConR := if h : ∃ l, Ce s l then h.choose else []
open Classical in
noncomputable def El (s : List UInt8) : Int := if ∃ l, Ce s l then 0 else 7
theorem Gm {s : List UInt8} {l : List ConR} (h : Ce s l) : Fm s = l /\ El s = 0 := by
 have he : ∃ l, Ce s l := ⟨l, h⟩
 unfold Fm El
 rw [dif_pos he, if_pos he]
 exact ⟨Wc he.choose_spec h, rfl⟩
theorem Fc {s : List UInt8} (h : ¬ ∃ l, Ce s l) : Fm s = [] /\ El s = 7 := by
 unfold Fm El
 rw [dif_neg h, if_neg h]
 exact ⟨rfl, rfl⟩
theorem Js : ∀ {o l : List ConR} {t : List UInt8}, (∀ x ∈ o, A9 x) -> (∀ x ∈ l, A9 x) -> Aa l = Aa o ++ t -> ∃ r, l = o ++ r /\ t = Aa r
 | [], l, t, _, _, h => ⟨l, rfl, by rw [h];rfl⟩
 | x :: o, [], t, ho, _, h => by
  rw [Bc, He] at h
  exact absurd (congrArg List.length h) (by simp [Ix])
 | x :: o, y :: l, t, ho, hl, h => by
  rw [Bc, Bc, List.append_assoc] at h
  have h1 := Ee (hl y (by simp)) (Aa l)
  rw [h, Ee (ho x (by simp))] at h1
  simp only [Prod.mk.injEq, and_true] at h1
  have h2 := E9 (hl y (by simp))
  rw [<- h1.1, E9 (ho x (by simp))] at h2
  obtain ⟨r, e1, e2⟩ := Js (fun z hz => ho z (by simp [hz])) (fun z hz => hl z (by simp [hz])) h1.2.symm
  exact ⟨r, by rw [Qz (ho x (by simp)) (hl y (by simp)) h2, e1];rfl, e2⟩
theorem Uh {s t : List UInt8} {o l : List ConR} (hg : Ce s l) (ho : ∀ x ∈ o, A9 x) (hs : s = Aa o ++ t) (ht : t ≠ []) :
  ∃ x, A9 x /\ Lib.split (Lib.cut t [10]).1 [32] = Ak x /\ o.length < 1000 /\ Lib.atoiAll (Lib.itoa x.lo) = .ok x.lo /\ Lib.atoiAll (Lib.itoa x.hi) = .ok x.hi /\ Lib.hasPrefix t (Aw (A8 x)) = true := by
 obtain ⟨r, rfl, rfl⟩ := Js ho hg.2.1 (hg.1.symm.trans hs)
 cases r with
 | nil => exact absurd rfl ht
 | cons x r =>
  have hx := hg.2.1 x (by simp)
  obtain ⟨b1, b2⟩ := Ec hx
  have hl := hg.2.2
  rw [List.length_append, List.length_cons] at hl
  refine ⟨x, hx, ?_, by omega, Fv _ b1.1 b1.2, Fv _ b2.1 b2.2, ?_⟩
  ·rw [Bc, Ee hx, E9 hx]
  ·rw [Bc]
   exact List.isPrefixOf_iff_prefix.2 ⟨_, rfl⟩
theorem Y1 {t : List UInt8} {x : ConR} (hx : A9 x) (hp : Lib.hasPrefix t (Aw (A8 x)) = true) : t = Aw (A8 x) ++ (Lib.cut t [10]).2.1 := by
 obtain ⟨r, hr⟩ := List.isPrefixOf_iff_prefix.1 hp
 rw [<- hr, Ee hx]
theorem G8 {x : ConR} (h : A9 x) : M7 (A8 x) := by
 obtain ⟨h1, h2, h3⟩ := h
 obtain ⟨b1, b2⟩ := Ec (x := x) ⟨h1, h2, h3⟩
 refine ⟨by simp [A8], fun w hw => ?_⟩
 simp only [A8, List.mem_cons, List.not_mem_nil, or_false] at hw
 simp only [B9, Bool.and_eq_true, decide_eq_true_eq] at h1 h2
 rcases hw with rfl | rfl | rfl | rfl
 ·have := h1.1.1.2;omega
 ·have := h2.1.1.2;omega
 ·have := E6 b1.1 b1.2;omega
 ·have := E6 b2.1 b2.2;omega
theorem Gw {l : List ConR} (h : ∀ x ∈ l, A9 x) : (Aa l).length <= l.length * 428 := by
 have := Nx (l.map A8) fun ws hws => by
  obtain ⟨x, hx, rfl⟩ := List.mem_map.1 hws
  exact G8 (h x hx)
 rwa [List.length_map] at this
/-! ### Numbers -/
def M1 (c : UInt8) : Prop := ¬ (c.toNat : Int) < 48 /\ ¬ (c.toNat : Int) > 57
instance (c : UInt8) : Decidable (M1 c) := by unfold M1;exact inferInstance
def Ct (l : List UInt8) : Int := l.foldl (fun n c => 10 * n + ((c.toNat : Int) - 48)) 0
def F0 (l : List UInt8) : Prop := ¬ (l.length < 1 \/ l.length > 16) /\ ∀ c ∈ l, M1 c
instance (l : List UInt8) : Decidable (F0 l) := by unfold F0;exact inferInstance
theorem Io (l : List UInt8) (c : UInt8) : Ct (l ++ [c]) = 10 * Ct l + ((c.toNat : Int) - 48) := by simp [Ct]
theorem Hm : ∀ (k : Nat) (l : List UInt8), l.length = k -> (∀ c ∈ l, M1 c) -> 0 <= Ct l /\ Ct l < 10 ^ k
 | 0, l, h, _ => by
  obtain rfl := List.eq_nil_of_length_eq_zero h
  exact ⟨Int.le_refl _, by decide⟩
 | k + 1, l, h, hl => by
  rcases List.eq_nil_or_concat l with rfl | ⟨m, c, rfl⟩
  ·cases h
  ·rw [List.concat_eq_append] at h hl ⊢
   rw [List.length_append, List.length_cons, List.length_nil] at h
   obtain ⟨h1, h2⟩ := Hm k m (by omega) fun x hx => hl x (by simp [hx])
   obtain ⟨d1, d2⟩ := hl c (by simp)
   rw [Io]
   have : (10 : Int) ^ (k + 1) = 10 * 10 ^ k := by rw [Int.pow_succ, Int.mul_comm]
   omega
theorem P8 : ∀ (k m : Nat), m <= k -> Ct (Lib.decDigits m) = (m : Int)
 | k, m, hk => by
  by_cases h : m < 10
  ·rw [Lib.decDigits_one h]
   simp only [Ct, List.foldl_cons, List.foldl_nil]
   rw [F7 h];omega
  ·cases k with
   | zero => omega
   | succ k =>
    rw [H5 h, Io, P8 k (m / 10) (by omega), F7 (by omega)]
    omega
theorem R2 : ∀ (k m : Nat), m < 10 ^ (k + 1) -> (Lib.decDigits m).length <= k + 1
 | 0, m, h => by rw [Lib.decDigits_one (by omega)];simp
 | k + 1, m, h => by
  by_cases h1 : m < 10
  ·rw [Lib.decDigits_one h1];simp
  ·rw [H5 h1, List.length_append]
   have h2 : m / 10 < 10 ^ (k + 1) := by
    have : (10 : Nat) ^ (k + 1 + 1) = 10 ^ (k + 1) * 10 := Nat.pow_succ ..
    omega
   have := R2 k (m / 10) h2
   simp only [List.length_cons, List.length_nil]
   omega
theorem P9 {n : Int} (h0 : 0 <= n) (h1 : n <= 1125899906842625) : F0 (Lib.itoa n) /\ Ct (Lib.itoa n) = n := by
 obtain ⟨m, rfl⟩ : ∃ m : Nat, n = m := ⟨n.toNat, by omega⟩
 have hi : Lib.itoa (m : Int) = Lib.decDigits m := by unfold Lib.itoa;rw [if_neg (by omega), Int.toNat_natCast]
 rw [hi]
 refine ⟨⟨?_, fun c hc => ?_⟩, P8 m m (Nat.le_refl _)⟩
 ·have h2 := R2 15 m (by omega)
  have h3 := List.length_pos_iff.2 (Kj m)
  omega
 ·have := Fu _ _ hc
  unfold M1;omega
/-! ### Where the reading stands -/
def Et (x : ConR) (j : Nat) : List UInt8 := Lib.join ((Ak x).drop j) [32] ++ [10]
def Pk (j : Nat) : UInt8 := if j < 3 then 32 else 10
def Ck (x : ConR) (j : Nat) : List UInt8 := (Ak x).getD j []
theorem Li (x : ConR) : Et x 0 = Aw (A8 x) := rfl
theorem F6 (x : ConR) {j : Nat} (hj : j < 4) : Et x j = Ck x j ++ Pk j :: (if j < 3 then Et x (j + 1) else []) := by
 unfold Et Ck Pk Ak A8
 match j, hj with
 | 0, _ => simp [Lib.join, List.intercalate]
 | 1, _ => simp [Lib.join, List.intercalate]
 | 2, _ => simp [Lib.join, List.intercalate]
 | 3, _ => simp [Lib.join, List.intercalate]
def AtC (s : List UInt8) (l o : List ConR) (w : List ByteArray) (fr i : Nat) : Prop :=
 (∃ (x : ConR) (r : List ConR) (j : Nat), j < 4 /\ l = o ++ x :: r /\ w = (A8 x).take j /\ s.drop fr = Et x j ++ Aa r /\ fr <= i /\ i - fr <= (Ck x j).length) \/ (l = o /\ w = [] /\ s.drop fr = [] /\ fr = i)
theorem Tc {s : List UInt8} {l : List ConR} (h : Ce s l) : AtC s l [] [] 0 0 := by
 cases l with
 | nil => exact .inr ⟨rfl, rfl, by rw [List.drop_zero, h.1];rfl, rfl⟩
 | cons x r => exact .inl ⟨x, r, 0, by omega, rfl, rfl, by rw [List.drop_zero, h.1, Bc, Li], Nat.le_refl _, by omega⟩
theorem Q3 {x : ConR} {j : Nat} (hj : j < 4) : Ck x j ∈ Ak x := by
 unfold Ck Ak A8
 match j, hj with
 | 0, _ => simp
 | 1, _ => simp
 | 2, _ => simp
 | 3, _ => simp
theorem Vc (x : ConR) {j : Nat} (hj : j < 4) {u : ByteArray} (hu : u.data.toList = Ck x j) : (A8 x).take j ++ [u] = (A8 x).take (j + 1) := by
 have hw : (A8 x)[j]? = some u := by
  unfold Ck Ak at hu
  have h4 : (A8 x).length = 4 := rfl
  obtain ⟨y, hy⟩ : ∃ y, (A8 x)[j]? = some y := ⟨_, List.getElem?_eq_getElem (by omega)⟩
  rw [List.getD_eq_getElem?_getD, List.getElem?_map, hy] at hu
  rw [hy]
  exact congrArg some (Bl hu.symm)
 rw [List.take_add_one, hw];rfl
theorem Jw {s : List UInt8} {l o : List ConR} {w : List ByteArray} {fr i : Nat} (hl : ∀ x ∈ l, A9 x) (h : AtC s l o w fr i) {c : UInt8} (hc : s[i]? = some c) :
  (c ≠ 32 /\ c ≠ 10 /\ AtC s l o w fr (i + 1)) \/
  (c = 32 /\ ∃ (x : ConR) (r : List ConR) (j : Nat), j < 3 /\ l = o ++ x :: r /\ fr <= i /\ (s.drop fr).take (i - fr) = Ck x j /\ w = (A8 x).take j /\ s.drop (i + 1) = Et x (j + 1) ++ Aa r) \/
  (c = 10 /\ ∃ (x : ConR) (r : List ConR), l = o ++ x :: r /\ fr <= i /\ (s.drop fr).take (i - fr) = Ck x 3 /\ w = (A8 x).take 3 /\ s.drop (i + 1) = Aa r) := by
 rcases h with ⟨x, r, j, hj, hlo, hw, hd, h1, h2⟩ | ⟨_, _, hd, rfl⟩
 ·have hx : A9 x := hl x (by rw [hlo];simp)
  have hci : (s.drop fr)[i - fr]? = some c := by rw [List.getElem?_drop, show fr + (i - fr) = i by omega];exact hc
  rw [hd, F6 x hj, List.append_assoc] at hci
  by_cases hlt : i - fr < (Ck x j).length
  ·rw [List.getElem?_append_left hlt] at hci
   have hm := List.mem_of_getElem? hci
   have n1 := Gx hx (.inl rfl) _ (Q3 hj)
   have n2 := Gx hx (.inr rfl) _ (Q3 hj)
   exact .inl ⟨fun e => n1 (e ▸ hm), fun e => n2 (e ▸ hm), .inl ⟨x, r, j, hj, hlo, hw, hd, by omega, by omega⟩⟩
  ·have he : i - fr = (Ck x j).length := by omega
   rw [he, List.getElem?_append_right (Nat.le_refl _), Nat.sub_self] at hci
   simp only [List.cons_append, List.getElem?_cons_zero, Option.some.injEq] at hci
   have ht : (s.drop fr).take (i - fr) = Ck x j := by rw [hd, F6 x hj, he, List.append_assoc, List.take_left]
   have hdr : s.drop (i + 1) = (if j < 3 then Et x (j + 1) else []) ++ Aa r := by
    have : s.drop (i + 1) = (s.drop fr).drop ((Ck x j).length + 1) := by rw [List.drop_drop];congr 1;omega
    have hz : Ck x j ++ Pk j :: (if j < 3 then Et x (j + 1) else []) ++ Aa r = (Ck x j ++ [Pk j]) ++ ((if j < 3 then Et x (j + 1) else []) ++ Aa r) := by simp
    rw [this, hd, F6 x hj, hz, List.drop_append_of_le_length (by simp), List.drop_of_length_le (by simp), List.nil_append]
   by_cases h3 : j < 3
   ·rw [if_pos h3] at hdr
    exact .inr (.inl ⟨by rw [<- hci];unfold Pk;rw [if_pos h3], x, r, j, h3, hlo, h1, ht, hw, hdr⟩)
   ·obtain rfl : j = 3 := by omega
    rw [if_neg h3] at hdr
    exact .inr (.inr ⟨by rw [<- hci];rfl, x, r, hlo, h1, ht, hw, by simpa using hdr⟩)
 ·have : (s.drop fr)[0]? = some c := by rw [List.getElem?_drop, Nat.add_zero];exact hc
  rw [hd] at this;cases this
theorem Tb {s : List UInt8} {l o : List ConR} {x : ConR} {r : List ConR} {j i : Nat} (hj : j < 3) (hl : l = o ++ x :: r) (hd : s.drop (i + 1) = Et x (j + 1) ++ Aa r) : AtC s l o ((A8 x).take (j + 1)) (i + 1) (i + 1) :=
 .inl ⟨x, r, j + 1, by omega, hl, rfl, hd, Nat.le_refl _, by omega⟩
theorem Vn {s : List UInt8} {l o : List ConR} {x : ConR} {r : List ConR} {i : Nat} (hl : l = o ++ x :: r) (hd : s.drop (i + 1) = Aa r) : AtC s l (o ++ [x]) [] (i + 1) (i + 1) := by
 cases r with
 | nil => exact .inr ⟨by rw [hl], rfl, hd, rfl⟩
 | cons y r => exact .inl ⟨y, r, 0, by omega, by rw [hl];simp, rfl, by rw [hd, Bc, Li], Nat.le_refl _, by omega⟩
theorem Tl (lo hi : Int) : Fn0 Tryz.prog 54 [A4 [.i lo, .i hi]] (.b (decide (Cy lo hi))) := by
 refine Fn0.of Tryz.func54 Tryz.ntmps54 rfl rfl rfl ?_
 simp only [A0]
 repeat' (first
  | refine W ?_
  | refine Y ?_
  | refine V ?_
  | (refine W2 ?_ ?_ <;> intro hc))
 all_goals exact A3 (by simp) Tryz.results54 rfl (by simp only [Value.bool.injEq];first | rfl|(rw [decide_eq_decide];unfold Cy;omega)|(symm;rw [decide_eq_true_iff];unfold Cy;omega)|(symm;rw [decide_eq_false_iff_not];unfold Cy;omega))
theorem G9 (x : ConR) : Fn0 Tryz.prog 30 [A4 x.row] (.b (decide (A9 x))) := by
 have n1 := Bk x.a
 have n2 := Bk x.b
 have b1 := Tl x.lo x.hi
 refine Fn0.of Tryz.func30 Tryz.ntmps30 rfl rfl rfl ?_
 simp only [A0]
 repeat' (first
  | refine W ?_
  | refine Y ?_
  | refine V ?_
  | (refine W2 ?_ ?_ <;> intro hc))
 all_goals exact A3 (by simp) Tryz.results30 rfl (by simp [A9, *])
theorem Mh (x : ConR) : x.a ++ ⟨#[32]⟩ ++ x.b ++ ⟨#[32]⟩ ++ Ad x.lo ++ ⟨#[32]⟩ ++ Ad x.hi ++ ⟨#[10]⟩ = ofL (Aw (A8 x)) := by
 apply Bl
 simp only [Cx, Aq, Aw, A8]
 simp [Lib.join, List.intercalate, Ad]
theorem Mj {x : ConR} (h : A9 x) : x.a.size <= 20 /\ x.b.size <= 20 /\ (Ad x.lo).size <= 21 /\ (Ad x.hi).size <= 21 := by
 obtain ⟨b1, b2⟩ := Ec h
 obtain ⟨h1, h2, h3⟩ := h
 simp only [B9, Bool.and_eq_true, decide_eq_true_eq] at h1 h2
 have e1 := h1.1.1.2
 have e2 := h2.1.1.2
 exact ⟨by omega, by omega, E6 b1.1 b1.2, E6 b2.1 b2.2⟩
theorem K1 (x : ConR) (h : A9 x) : Fn0 Tryz.prog 32 [A4 x.row] (.s (ofL (Aw (A8 x)))) := by
 obtain ⟨b1, b2⟩ := Ec h
 obtain ⟨s1, s2, s3, s4⟩ := Mj h
 have i1 := Pq x.lo b1.1 b1.2
 have i2 := Pq x.hi b2.1 b2.2
 refine Fn0.of Tryz.func32 Tryz.ntmps32 rfl rfl rfl ?_
 simp only [A0]
 repeat' (first
  | refine W ?_
  | refine Y ?_|(apply S.strAdd;exact rfl;exact rfl;exact rfl;(simp only [ByteArray.size_append, P4, List.size_toArray, List.length_cons, List.length_nil];omega))|(apply T.drawAll A2 (by decide +kernel))|(apply T.draw 20 A2 (by decide +kernel);simp only [td])
  | refine V ?_
  | (refine W2 ?_ ?_ <;> intro hc))
 all_goals exact A3 (by simp) Tryz.results32 rfl (by rw [Mh])
theorem X0 (lo hi : Int) : Fn0 Tryz.prog 40 [A4 [.i lo, .i hi]] (.b (decide (Cy lo hi))) := by
 refine Fn0.of Tryz.func40 Tryz.ntmps40 rfl rfl rfl ?_
 simp only [A0]
 repeat' (first
  | refine W ?_
  | refine Y ?_
  | refine V ?_
  | (refine W2 ?_ ?_ <;> intro hc))
 all_goals exact A3 (by simp) Tryz.results40 rfl (by simp only [Value.bool.injEq];first | rfl|(rw [decide_eq_decide];unfold Cy;omega)|(symm;rw [decide_eq_true_iff];unfold Cy;omega)|(symm;rw [decide_eq_false_iff_not];unfold Cy;omega))
theorem N4 (x : ConR) : Fn0 Tryz.prog 15 [A4 x.row] (.b (decide (A9 x))) := by
 have n1 := L9 x.a
 have n2 := L9 x.b
 have b1 := X0 x.lo x.hi
 refine Fn0.of Tryz.func15 Tryz.ntmps15 rfl rfl rfl ?_
 simp only [A0]
 repeat' (first
  | refine W ?_
  | refine Y ?_
  | refine V ?_
  | (refine W2 ?_ ?_ <;> intro hc))
 all_goals exact A3 (by simp) Tryz.results15 rfl (by simp [A9, *])
end Go.Proofs.YtlapbaiejnaeiaaGreatDoor
