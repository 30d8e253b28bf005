/- Lemmas of the proof. -/
import Derived.Test.YtlapbaiejnaeiaaGreatDoorMd
import Derived.Test.YtlapbaiejnaeiaaGreatDoorMc
import Derived.Test.YtlapbaiejnaeiaaGreatDoorNz
import Derived.Test.YtlapbaiejnaeiaaGreatDoorMh
import Derived.Lib.UnsafeStr
import Derived.Test.YtlapbaiejnaeiaaGreatDoorMy
import Derived.Test.YtlapbaiejnaeiaaGreatDoorPf
import Derived.Test.YtlapbaiejnaeiaaGreatDoorMk
set_option linter.all false
namespace Go.Proofs.YtlapbaiejnaeiaaGreatDoor
open Go Go.RowKit
def b0n := @List.isPrefixOf_iff_prefix
def b2t := @Tryz.func36
instance : HasU Tryz.prog 72 (.interface (Tryz.prog.methodsAt 72)) := ⟨by kernel_rfl⟩
theorem Xu : Tryz.prog.globalNamed "internal/bytealg.MaxLen" = some 0 := by kernel_rfl
theorem A9q : Tryz.prog.globalNamed "strconv.ErrSyntax" = some 1 := by kernel_rfl
theorem A9p : Tryz.prog.globalNamed "strconv.ErrRange" = some 2 := by kernel_rfl
theorem Adl (s sep : ByteArray) (hs : s.size < 4294967281) : Fn0 Tryz.prog 34 [.s s, .s sep] (.tup [.s ⟨(Lib.cut s.data.toList sep.data.toList).1.toArray⟩, .s ⟨(Lib.cut s.data.toList sep.data.toList).2.1.toArray⟩, .b (Lib.cut s.data.toList sep.data.toList).2.2]) := by
 refine ⟨⟨_, Tryz.func34, rfl, rfl⟩, fun L w vs hG hL hl hv => ?_⟩
 match vs, hl with
 | [u, v], _ =>
  obtain rfl := (hv 0 (.s s) u rfl rfl).val_eq
  obtain rfl := (hv 1 (.s sep) v rfl rfl).val_eq
  obtain ⟨m, hm⟩ := hG.len _ Xu
  refine (Tryz.strings_Cut s sep m w hs hm).mono ?_
  rintro e w' ⟨rfl, n, rfl⟩
  refine ⟨_, rfl, .tup _ [_, _, _] rfl (fun i x v hx hv => ?_), ?_⟩
  ·match i with
   | 0 => simp at hx hv;subst hx hv;exact A7 _
   | 1 => simp at hx hv;subst hx hv;exact A7 _
   | 2 => simp at hx hv;subst hx hv;exact A7 _
   | i + 3 => simp at hx
  ·exact ⟨rfl, rfl, rfl, a0m _, fun i hi => rfl⟩
theorem Wm (s p : ByteArray) : Fn0 Tryz.prog 37 [.s s, .s p] (.b (Lib.hasPrefix s.data.toList p.data.toList)) := by
 refine ⟨⟨_, Tryz.func37, rfl, rfl⟩, fun L w vs hG hL hl hv => ?_⟩
 match vs, hl with
 | [u, v], _ =>
  obtain rfl := (hv 0 (.s s) u rfl rfl).val_eq
  obtain rfl := (hv 1 (.s p) v rfl rfl).val_eq
  refine (Tryz.strings_HasPrefix s p w).mono ?_
  rintro e w' ⟨rfl, rfl⟩
  exact ⟨_, rfl, A7 _, ⟨rfl, rfl, rfl, a0m _, fun i hi => rfl⟩⟩
def F4 (s sep : ByteArray) : List ByteArray := Lib.splitB sep 0 (Lib.countB s sep) s
theorem R4 (s sep : ByteArray) : (F4 s sep).map (·.data.toList) = Lib.split s.data.toList sep.data.toList := Lib.splitB_data _ _ _ _
theorem A4m (s sep : ByteArray) (h1 : 1 <= sep.size) : (F4 s sep).length = Lib.countB s sep + 1 := Lib.splitB_all sep h1 0 _ s rfl
theorem A8s {s sep w : ByteArray} (h : w ∈ F4 s sep) : w.size <= s.size := by
 have h1 : w.data.toList ∈ Lib.split s.data.toList sep.data.toList := by rw [<- R4];exact a1a.2 ⟨w, h, rfl⟩
 have := Abe h1
 rw [a3w, a3w] at this
 exact this
theorem A85 (s sep : ByteArray) (hs : s.size < 4294967281) (h1 : 1 <= sep.size) : Fn0 Tryz.prog 35 [.s s, .s sep] (.sl ((F4 s sep).map fun x => [.s x])) := by
 refine ⟨⟨_, Tryz.func35, rfl, rfl⟩, fun L w vs hG hL hl hv => ?_⟩
 match vs, hl with
 | [u, v], _ =>
  obtain rfl := (hv 0 (.s s) u rfl rfl).val_eq
  obtain rfl := (hv 1 (.s sep) v rfl rfl).val_eq
  obtain ⟨m, hm⟩ := hG.len _ Xu
  refine (Tryz.strings_Split s sep m w hs hm h1).mono ?_
  rintro e w' ⟨rfl, rfl⟩
  have hlen := A4m s sep h1
  have hcell : ∀ (i : Nat) (x : ByteArray), (F4 s sep)[i]? = some x -> (w.alloc (.cells ((Lib.splitB sep 0 (Lib.countB s sep) s).map Value.string).toArray 9)).cell? ⟨w.heap.size, 0 + (i * 1 + 0), none⟩ = some (.string x) := fun i x hx => by
   have h0 : (w.alloc (.cells ((Lib.splitB sep 0 (Lib.countB s sep) s).map Value.string).toArray 9)).heap[w.heap.size]? = some (.cells ((Lib.splitB sep 0 (Lib.countB s sep) s).map Value.string).toArray 9 (0, 0)) := Bh _ _
   refine Bf h0 ?_
   rw [b1j, a0e, a1q]
   have hx' : (Lib.splitB sep 0 (Lib.countB s sep) s)[i * 1 + 0]? = some x := by simpa [F4] using hx
   rw [hx'];rfl
  have hb : Below w.heap.size w (w.alloc (.cells ((Lib.splitB sep 0 (Lib.countB s sep) s).map Value.string).toArray 9)) := (Below.refl _ _).alloc (a0m _) _
  refine ⟨_, rfl, .lf _ _ ?_, hb⟩
  have hl2 : ((F4 s sep).map fun x => [Lf.s x]).length = Lib.countB s sep + 1 := by rw [a0a, hlen]
  rw [<- hl2]
  have hrow : ∀ (i : Nat) (row : List Lf) (j : Nat) (x : Lf), ((F4 s sep).map fun x => [Lf.s x])[i]? = some row -> row[j]? = some x -> ∃ y, (F4 s sep)[i]? = some y /\ j = 0 /\ x = Lf.s y /\ row.length = 1 := fun i row j x hi hj => by
   rw [a0e] at hi
   cases hy : (F4 s sep)[i]? with
   | none => rw [hy] at hi;cases hi
   | some y =>
    rw [hy] at hi
    simp only [a1b, a0f] at hi
    subst hi
    cases j with
    | zero => simp at hj;exact ⟨y, rfl, rfl, hj.symm, rfl⟩
    | succ j => simp at hj
  refine .sl _ ⟨w.heap.size, 0, none⟩ _ (fun i _ => .string ((F4 s sep).getD i ⟨#[]⟩)) (.inl rfl) (a0m _) (fun i row j x hi hj => ?_) (fun i row j x hi hj => ?_)
  ·obtain ⟨y, hy, rfl, rfl, hr⟩ := hrow i row j x hi hj
   refine ⟨fun hf => ?_, ?_⟩
   ·exact absurd (hL _ ((Do L _).1 hf)) (b0w _)
   ·rw [hr]
    have := hcell i y hy
    rw [this, a0j, hy];rfl
  ·obtain ⟨y, hy, rfl, rfl, hr⟩ := hrow i row j x hi hj
   rw [a0j, hy]
   exact .val _
theorem A0q (s : ByteArray) (hs : s.size <= 281474976710656) {v : Int} (h : Lib.atoiAll s.data.toList = .ok v) : Fn0 Tryz.prog 36 [.s s] (.tup [.i v, .val .nilIface]) := by
 refine ⟨⟨_, b2t, rfl, rfl⟩, fun L w vs hG hL hl hv => ?_⟩
 match vs, hl with
 | [u], _ =>
  obtain rfl := (hv 0 (.s s) u rfl rfl).val_eq
  refine (Tryz.strconv_Atoi_ok s (by omega) v h w).mono ?_
  rintro e w' ⟨rfl, hw⟩
  refine ⟨_, rfl, .tup _ [_, _] rfl (fun i x v hx hv => ?_), ?_⟩
  ·match i with
   | 0 => simp at hx hv;subst hx hv;exact A7 _
   | 1 => simp at hx hv;subst hx hv;exact A7 _
   | i + 2 => simp at hx
  ·rcases hw with rfl | ⟨t, rfl⟩
   ·exact ⟨rfl, rfl, rfl, a0m _, fun i hi => rfl⟩
   ·exact Lib.below_freeze (((Below.refl _ _).drew).alloc (a0m _) _) (a0m _) _
theorem Z5 (s : ByteArray) (hs : s.size <= 281474976710656) (h : ∀ v, Lib.atoiAll s.data.toList ≠ .ok v) : ∃ n : Int, (-9223372036854775808 <= n /\ n <= 9223372036854775807) /\ Fn0 Tryz.prog 36 [.s s] (.tup [.i n, .err]) := by
 have two : ∀ {w' : World} {L : Nat -> Prop} {n : Int} {t : TypeId} {p : Value}, RelV w' L As (.tup [.i n, .err]) (.tuple #[.int .i64 n, .iface t p]) := fun {w' L n t p} => .tup _ [_, _] rfl fun i x v hx hv => by
  match i with
  | 0 => simp at hx hv;subst hx hv;exact A7 _
  | 1 => simp at hx hv;subst hx hv;exact .err _ _
  | i + 2 => simp at hx
 cases h0 : Lib.atoiAll s.data.toList with
 | ok v => exact absurd h0 (h v)
 | range =>
  refine ⟨Lib.atoiSat s.data.toList, by unfold Lib.atoiSat;split <;> omega, ⟨⟨_, b2t, rfl, rfl⟩, fun L w vs hG hL hl hv => ?_⟩⟩
  match vs, hl with
  | [u], _ =>
   obtain rfl := (hv 0 (.s s) u rfl rfl).val_eq
   obtain ⟨ev, h1, h2⟩ := hG.ran _ A9p
   refine (Tryz.strconv_Atoi_range s (by omega) h0 ev w h1 h2).mono ?_
   rintro e w' ⟨N, rfl, _, _, hb⟩
   exact ⟨_, rfl, two, hb⟩
 | _ =>
  refine ⟨0, by omega, ⟨⟨_, b2t, rfl, rfl⟩, fun L w vs hG hL hl hv => ?_⟩⟩
  match vs, hl with
  | [u], _ =>
   obtain rfl := (hv 0 (.s s) u rfl rfl).val_eq
   obtain ⟨ev, h1, h2⟩ := hG.syn _ A9q
   refine (Tryz.strconv_Atoi_syntax s (by omega) (h0.trans rfl) ev w h1 h2).mono ?_
   rintro e w' ⟨N, rfl, _, _, hb⟩
   exact ⟨_, rfl, two, hb⟩
theorem Rc (a b : List UInt8) : Lib.byteCells (a ++ b) = Lib.byteCells a ++ Lib.byteCells b := by simp [Lib.byteCells]
theorem Wc (a : List UInt8) : (Lib.byteCells a).length = a.length := by simp [Lib.byteCells]
theorem A0l (l : List UInt8) : FnRead Tryz.prog 70 5 33 (Lib.byteCells l) (.string (ofL l)) := by
 refine ⟨⟨_, Tryz.func33, rfl, rfl⟩, fun w k B hB hs => ?_⟩
 refine (Tryz.Builder_String_any_f B k l w (hB.f (by kernel_rfl)) hs).mono ?_
 rintro e w' ⟨rfl, _, hb⟩
 exact ⟨rfl, hb⟩
abbrev Afk (b2 : Nat) (l : List UInt8) : HB := .bld 70 5 b2 (Lib.byteCells l)
theorem A51 (str : ByteArray) (l : List UInt8) (hlen : l.length + str.size <= 140737488355328) : FnBld Tryz.prog 70 5 31 [.s str] (Lib.byteCells l) (Lib.byteCells (l ++ str.data.toList)) (.tup [.i str.size, .val .nilIface]) := by
 refine ⟨⟨_, Tryz.func31, rfl, rfl⟩, fun L w k p v vs hG hL hl hv hB => ?_⟩
 match vs, hl with
 | [u], _ =>
  obtain rfl := (hv 0 (.s str) u rfl rfl).val_eq
  refine (Tx str hB (by rw [Wc];exact hlen)).mono ?_
  rintro e w' ⟨rfl, ⟨v', hB', hg⟩, h1, h2, h3, h4, h5, h6⟩
  refine ⟨_, rfl, .tup _ [_, _] rfl (fun i x v hx hv => ?_), ⟨.pointer (some ⟨k, 0, none⟩), v', ?_, hg⟩, ⟨h2, h3, h4, h5, fun j hj hn => h1 j hj (fun e => hn (.inl e)) (fun e => hn (.inr e)), h6⟩⟩
  ·match i with
   | 0 => simp at hx hv;subst hx hv;exact A7 _
   | 1 => simp at hx hv;subst hx hv;exact A7 _
   | i + 2 => simp at hx
  ·rw [Rc];exact hB'
def An (x : ConR) : List ByteArray := [x.a, x.b, Hv x.lo, Hv x.hi]
def C5 (x : ConR) : List (List UInt8) := (An x).map (·.data.toList)
def Ju (lo hi : Int) : Prop := (0 <= lo /\ lo <= 1125899906842624) /\ (hi = lo \/ hi = lo + 1)
instance (lo hi : Int) : Decidable (Ju lo hi) := by unfold Ju;exact inferInstance
def B0 (x : ConR) : Prop := Cy x.a = true /\ Cy x.b = true /\ Ju x.lo x.hi
instance (x : ConR) : Decidable (B0 x) := by unfold B0;exact inferInstance
def Bg (l : List ConR) : List UInt8 := bytesOf (l.map An)
theorem Dd (x : ConR) (l : List ConR) : Bg (x :: l) = Cr (An x) ++ Bg l := rfl
theorem P4 (l m : List ConR) : Bg (l ++ m) = Bg l ++ Bg m := by unfold Bg;rw [a1p, X4]
theorem W7 (x : ConR) : Bg [x] = Cr (An x) := by unfold Bg bytesOf;simp
theorem P5 : Bg [] = [] := rfl
def Km (s : List UInt8) (l : List ConR) : Prop := s = Bg l /\ (∀ x ∈ l, B0 x) /\ l.length <= 1000
theorem Y1 {c : UInt8} (hc : c.toNat < 45) (n : Int) : c ∉ Lib.itoa n := by
 unfold Lib.itoa
 split
 ·intro h
  rcases a1i.1 h with h | h
  ·subst h;exact absurd hc (by decide)
  ·have := Nv _ _ h;omega
 ·intro h
  have := Nv _ _ h;omega
theorem Yb {s : ByteArray} (h : Cy s = true) {c : UInt8} (hc : ¬ Gx c.toNat) : c ∉ s.data.toList := by
 simp only [Cy, a0x, decide_eq_true_eq] at h
 obtain ⟨_, hw⟩ := h
 intro h10
 have hl : s.data.toList.takeWhile (fun c => decide (Gx c.toNat)) = s.data.toList := by
  refine (List.takeWhile_prefix _).eq_of_length ?_
  have : (F9 s : Int) = s.size := hw
  unfold F9 at this
  rw [a3w]
  exact Int.ofNat.inj this
 have ha := List.all_takeWhile (p := fun c : UInt8 => decide (Gx c.toNat)) (l := s.data.toList)
 rw [hl] at ha
 have := a0k.1 ha c h10
 exact hc (of_decide_eq_true this)
theorem A2l {x : ConR} (h : B0 x) {c : UInt8} (hc : c = 32 \/ c = 10) : ∀ w ∈ C5 x, c ∉ w := by
 intro w hw
 simp only [C5, An, a1l, a3v, a1i, a2r, or_false] at hw
 have c1 : c.toNat < 45 := by rcases hc with rfl | rfl <;> decide
 have c2 : ¬ Gx c.toNat := by rcases hc with rfl | rfl <;> decide
 rcases hw with rfl | rfl | rfl | rfl
 ·exact Yb h.1 c2
 ·exact Yb h.2.1 c2
 ·exact Y1 c1 _
 ·exact Y1 c1 _
theorem Mp (x : ConR) : Cr (An x) = Lib.join (C5 x) [32] ++ [10] := rfl
theorem Acj {x : ConR} (h : B0 x) : (10 : UInt8) ∉ Lib.join (C5 x) [32] := A38 _ (A2l h (.inr rfl))
theorem I8 {x : ConR} (h : B0 x) (t : List UInt8) : Lib.cut (Cr (An x) ++ t) [10] = (Lib.join (C5 x) [32], t, true) := by
 rw [Mp, a2t]
 exact Ac7 (Acj h)
theorem I1 {x : ConR} (h : B0 x) : Lib.split (Lib.join (C5 x) [32]) [32] = C5 x := Ts _ (by simp [C5, An]) (A2l h (.inl rfl))
theorem Jk {x : ConR} (h : B0 x) : (-9223372036854775808 <= x.lo /\ x.lo <= 9223372036854775807) /\ (-9223372036854775808 <= x.hi /\ x.hi <= 9223372036854775807) := by
 obtain ⟨_, _, h1, h2⟩ := h
 omega
theorem A1b {x y : ConR} (hx : B0 x) (hy : B0 y) (h : C5 x = C5 y) : x = y := by
 simp only [C5, An, a1l, a3v, a1o, and_true] at h
 obtain ⟨h1, h2, h3, h4⟩ := h
 obtain ⟨a1, a2⟩ := Jk hx
 obtain ⟨b1, b2⟩ := Jk hy
 have e3 := Y0 a1.1 a1.2 b1.1 b1.2 h3
 have e4 := Y0 a2.1 a2.2 b2.1 b2.2 h4
 have e1 := Lg h1
 have e2 := Lg h2
 cases x;cases y
 simp only at e1 e2 e3 e4
 subst e1 e2 e3 e4
 rfl
theorem Zd : ∀ {l m : List ConR}, (∀ x ∈ l, B0 x) -> (∀ x ∈ m, B0 x) -> Bg l = Bg m -> l = m
 | [], [], _, _, _ => rfl
 | [], y :: m, _, hm, h => by
  rw [Dd, Mp] at h
  exact absurd (congrArg List.length h) (by simp [P5])
 | x :: l, [], hl, _, h => by
  rw [Dd, Mp] at h
  exact absurd (congrArg List.length h) (by simp [P5])
 | x :: l, y :: m, hl, hm, h => by
  rw [Dd, Dd] at h
  have h1 := I8 (hl x (by simp)) (Bg l)
  rw [h, I8 (hm y (by simp))] at h1
  simp only [a1c, and_true] at h1
  have h2 := I1 (hl x (by simp))
  rw [<- h1.1, I1 (hm y (by simp))] at h2
  rw [A1b (hl x (by simp)) (hm y (by simp)) h2.symm, Zd (fun z hz => hl z (by simp [hz])) (fun z hz => hm z (by simp [hz])) h1.2.symm]
theorem A9r {s : List UInt8} {l m : List ConR} (hl : Km s l) (hm : Km s m) : l = m := Zd hl.2.1 hm.2.1 (hl.1.symm.trans hm.1)
open Classical in
noncomputable def Rp (s : List UInt8) : List ConR := if h : ∃ l, Km s l then h.choose else []
open Classical in
noncomputable def Ro (s : List UInt8) : Int := if ∃ l, Km s l then 0 else 7
theorem A75 {s : List UInt8} {l : List ConR} (h : Km s l) : Rp s = l /\ Ro s = 0 := by
 have he : ∃ l, Km s l := ⟨l, h⟩
 unfold Rp Ro
 rw [dif_pos he, if_pos he]
 exact ⟨A9r he.choose_spec h, rfl⟩
theorem Ad3 {s : List UInt8} (h : ¬ ∃ l, Km s l) : Rp s = [] /\ Ro s = 7 := by
 unfold Rp Ro
 rw [dif_neg h, if_neg h]
 exact ⟨rfl, rfl⟩
theorem R2 : ∀ {o l : List ConR} {t : List UInt8}, (∀ x ∈ o, B0 x) -> (∀ x ∈ l, B0 x) -> Bg l = Bg o ++ t -> ∃ r, l = o ++ r /\ t = Bg r
 | [], l, t, _, _, h => ⟨l, rfl, by rw [h];rfl⟩
 | x :: o, [], t, ho, _, h => by
  rw [Dd, Mp] at h
  exact absurd (congrArg List.length h) (by simp [P5])
 | x :: o, y :: l, t, ho, hl, h => by
  rw [Dd, Dd, a2t] at h
  have h1 := I8 (hl y (by simp)) (Bg l)
  rw [h, I8 (ho x (by simp))] at h1
  simp only [a1c, and_true] at h1
  have h2 := I1 (hl y (by simp))
  rw [<- h1.1, I1 (ho x (by simp))] at h2
  obtain ⟨r, e1, e2⟩ := R2 (fun z hz => ho z (by simp [hz])) (fun z hz => hl z (by simp [hz])) h1.2.symm
  exact ⟨r, by rw [A1b (ho x (by simp)) (hl y (by simp)) h2, e1];rfl, e2⟩
theorem A6w {s t : List UInt8} {o l : List ConR} (hg : Km s l) (ho : ∀ x ∈ o, B0 x) (hs : s = Bg o ++ t) (ht : t ≠ []) :
  ∃ x, B0 x /\ Lib.split (Lib.cut t [10]).1 [32] = C5 x /\ o.length < 1000 /\ Lib.atoiAll (Lib.itoa x.lo) = .ok x.lo /\ Lib.atoiAll (Lib.itoa x.hi) = .ok x.hi /\ Lib.hasPrefix t (Cr (An x)) = true := by
 obtain ⟨r, rfl, rfl⟩ := R2 ho hg.2.1 (hg.1.symm.trans hs)
 cases r with
 | nil => exact absurd rfl ht
 | cons x r =>
  have hx := hg.2.1 x (by simp)
  obtain ⟨b1, b2⟩ := Jk hx
  have hl := hg.2.2
  rw [a0q, a0i] at hl
  refine ⟨x, hx, ?_, by omega, Ki _ b1.1 b1.2, Ki _ b2.1 b2.2, ?_⟩
  ·rw [Dd, I8 hx, I1 hx]
  ·rw [Dd]
   exact b0n.2 ⟨_, rfl⟩
theorem Acw {t : List UInt8} {x : ConR} (hx : B0 x) (hp : Lib.hasPrefix t (Cr (An x)) = true) : t = Cr (An x) ++ (Lib.cut t [10]).2.1 := by
 obtain ⟨r, hr⟩ := b0n.1 hp
 rw [<- hr, I8 hx]
theorem Qj {x : ConR} (h : B0 x) : Ug (An x) := by
 obtain ⟨h1, h2, h3⟩ := h
 obtain ⟨b1, b2⟩ := Jk (x := x) ⟨h1, h2, h3⟩
 refine ⟨by simp [An], fun w hw => ?_⟩
 simp only [An, a1i, a2r, or_false] at hw
 simp only [Cy, a0x, decide_eq_true_eq] at h1 h2
 rcases hw with rfl | rfl | rfl | rfl
 ·have := h1.1.1.2;omega
 ·have := h2.1.1.2;omega
 ·have := Jd b1.1 b1.2;omega
 ·have := Jd b2.1 b2.2;omega
theorem A2g {l : List ConR} (h : ∀ x ∈ l, B0 x) : (Bg l).length <= l.length * 428 := by
 have := X5 (l.map An) fun ws hws => by
  obtain ⟨x, hx, rfl⟩ := a1a.1 hws
  exact Qj (h x hx)
 rwa [a0a] at this
/-! ### Numbers -/
/-! ### Where the reading stands -/
theorem A5c (lo hi : Int) : Fn0 Tryz.prog 54 [A2 [.i lo, .i hi]] (.b (decide (Ju lo hi))) := by
 refine Fn0.of Tryz.func54 Tryz.ntmps54 rfl rfl rfl ?_
 simp only [A1]
 repeat' (first|refine W ?_|refine Y ?_|refine V ?_|(refine W2 ?_ ?_<;>intro hc))
 all_goals exact A4 (by simp) Tryz.results54 rfl (by simp only [Value.bool.injEq];first | rfl|(rw [decide_eq_decide];unfold Ju;omega)|(symm;rw [decide_eq_true_iff];unfold Ju;omega)|(symm;rw [decide_eq_false_iff_not];unfold Ju;omega))
theorem Qk (x : ConR) : Fn0 Tryz.prog 30 [A2 x.row] (.b (decide (B0 x))) := by
 have n1 := Cx x.a
 have n2 := Cx x.b
 have b1 := A5c x.lo x.hi
 refine Fn0.of Tryz.func30 Tryz.ntmps30 rfl rfl rfl ?_
 simp only [A1]
 repeat' (first|refine W ?_|refine Y ?_|refine V ?_|(refine W2 ?_ ?_<;>intro hc))
 all_goals exact A4 (by simp) Tryz.results30 rfl (by simp [B0, *])
theorem A5d (x : ConR) : x.a ++ ⟨#[32]⟩ ++ x.b ++ ⟨#[32]⟩ ++ Hv x.lo ++ ⟨#[32]⟩ ++ Hv x.hi ++ ⟨#[10]⟩ = ofL (Cr (An x)) := by
 apply Lg
 simp only [A4v, Ft, Cr, An]
 simp [Lib.join, List.intercalate, Hv]
theorem A5f {x : ConR} (h : B0 x) : x.a.size <= 20 /\ x.b.size <= 20 /\ (Hv x.lo).size <= 21 /\ (Hv x.hi).size <= 21 := by
 obtain ⟨b1, b2⟩ := Jk h
 obtain ⟨h1, h2, h3⟩ := h
 simp only [Cy, a0x, decide_eq_true_eq] at h1 h2
 have e1 := h1.1.1.2
 have e2 := h2.1.1.2
 exact ⟨by omega, by omega, Jd b1.1 b1.2, Jd b2.1 b2.2⟩
theorem Xd (x : ConR) (h : B0 x) : Fn0 Tryz.prog 32 [A2 x.row] (.s (ofL (Cr (An x)))) := by
 obtain ⟨b1, b2⟩ := Jk h
 obtain ⟨s1, s2, s3, s4⟩ := A5f h
 have i1 := Z6 x.lo b1.1 b1.2
 have i2 := Z6 x.hi b2.1 b2.2
 refine Fn0.of Tryz.func32 Tryz.ntmps32 rfl rfl rfl ?_
 simp only [A1]
 repeat' (first|refine W ?_|refine Y ?_|(apply p4g;(iterate 3 exact rfl);(simp only [ByteArray.size_append, Aa6, a7y, a0i, a0o];omega))|(apply p0a A0 (by decide +kernel))|(apply p0e 20 A0 (by decide +kernel);simp only [td])|refine V ?_|(refine W2 ?_ ?_<;>intro hc))
 all_goals exact A4 (by simp) Tryz.results32 rfl (by rw [A5d])
end Go.Proofs.YtlapbaiejnaeiaaGreatDoor
