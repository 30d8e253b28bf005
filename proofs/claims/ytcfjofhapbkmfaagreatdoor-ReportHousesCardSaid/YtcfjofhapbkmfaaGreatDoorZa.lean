/- Contracts: the texts of fractions that fit (ratio.Text, the reference's Text). No conditions but those of each statement. -/
import Derived.Test.YtcfjofhapbkmfaaGreatDoorMp
import Derived.Test.YtcfjofhapbkmfaaGreatDoorYc
import Derived.Test.YtcfjofhapbkmfaaGreatDoorMy
import Derived.Laws.IdiomStrings
import Derived.Test.YtcfjofhapbkmfaaGreatDoorYj
import Derived.Test.YtcfjofhapbkmfaaGreatDoorMj
import Derived.Test.YtcfjofhapbkmfaaGreatDoorXb
set_option linter.unusedSimpArgs false
set_option linter.unusedVariables false
namespace Go.Proofs.YtcfjofhapbkmfaaGreatDoor
open Go Go.RowKit Go.Sort
def D9 (q : Rat) : ByteArray := if q.den = 1 then Af q.num else Af q.num ++ ⟨#[47]⟩ ++ Af q.den
theorem Hv {q : Rat} (h : Fits q) : (D9 q).size <= 43 := by
 obtain ⟨h1, h2⟩ := h
 have s1 := Ar (n := q.num) (by omega) (by omega)
 have s2 := Ar (n := (q.den : Int)) (by omega) (by omega)
 unfold D9
 split
 ·omega
 ·rw [ByteArray.size_append, ByteArray.size_append, show (⟨#[47]⟩ : ByteArray).size = 1 from rfl];omega
set_option maxHeartbeats 2000000 in
theorem Nw (q : Rat) (hq : Fits q) : Fn0 Tryz.prog 68 [A6 (frR q)] (.tup [.s (D9 q), .i 0]) := by
 have hv := Ks q.num q.den
 rw [hq.valid] at hv
 obtain ⟨h1, h2⟩ := hq
 have h3 := q.den_pos
 have i1 := Dh q.num (by omega) (by omega)
 have i2 := Dh (q.den : Int) (by omega) (by omega)
 have s1 := Ar (n := q.num) (by omega) (by omega)
 have s2 := Ar (n := (q.den : Int)) (by omega) (by omega)
 have s3 : (⟨#[47]⟩ : ByteArray).size = 1 := rfl
 unfold D9
 show Fn0 Tryz.prog 68 [A6 [.i q.num, .i (q.den : Int)]] _
 generalize q.num = n at *
 by_cases hd : q.den = 1
 ·rw [if_pos hd]
  have hd' : ((q.den : Nat) : Int) = 1 := by omega
  generalize ((q.den : Nat) : Int) = d at *
  have c2 : Fn0 Tryz.prog 118 [A6 [.i n, .i d]] (.s (Af n)) := by
   refine Fn0.of Tryz.func118 Tryz.ntmps118 rfl rfl rfl ?_
   simp only [A0]
   repeat' (first
    | refine W ?_
    | refine Y ?_
    | refine V ?_
    | (refine W2 ?_ ?_ <;> intro hc))
   all_goals exact A7 (by simp) Tryz.results118 rfl rfl
  refine Fn0.of Tryz.func68 Tryz.ntmps68 rfl rfl rfl ?_
  simp only [A0]
  repeat' (first
   | refine W ?_
   | refine Y ?_
   | refine V ?_
   | (refine W2 ?_ ?_ <;> intro hc))
  all_goals exact D2 rfl rfl rfl
 ·rw [if_neg hd]
  have hd' : ¬ ((q.den : Nat) : Int) = 1 := by omega
  generalize ((q.den : Nat) : Int) = d at *
  have c2 : Fn0 Tryz.prog 118 [A6 [.i n, .i d]] (.s (Af n ++ ⟨#[47]⟩ ++ Af d)) := by
   refine Fn0.of Tryz.func118 Tryz.ntmps118 rfl rfl rfl ?_
   simp only [A0]
   repeat' (first
    | refine W ?_
    | refine Y ?_|(apply S.strAdd;(iterate 3 exact rfl);first | omega|(simp only [ByteArray.size_append];omega))|(apply T.drawAll A3 (by decide +kernel))|(apply T.draw 10 A3 (by decide +kernel);simp only [td])|(apply T.drawR 10 A3 (by decide +kernel);simp only [td])
    | refine V ?_
    | (refine W2 ?_ ?_ <;> intro hc))
   all_goals exact A7 (by simp) Tryz.results118 rfl rfl
  refine Fn0.of Tryz.func68 Tryz.ntmps68 rfl rfl rfl ?_
  simp only [A0]
  repeat' (first
   | refine W ?_
   | refine Y ?_
   | refine V ?_
   | (refine W2 ?_ ?_ <;> intro hc))
  all_goals exact D2 rfl rfl rfl
/-! ### The reference's -/
theorem Zp {d : Nat} (h : d < 10) : (UInt8.ofNat (48 + d)).toNat = 48 + d := by
 rw [UInt8.toNat_ofNat_of_lt' (by simp [UInt8.size];omega)]
theorem S2 (w : World) (z : Int) (d : Nat) (hz : z = d) (hd : d < 10) :
  (convert 76 9 (.slice (some ⟨w.heap.size, 0, none⟩) 1 1)).run Tryz.prog (w.alloc (.cells #[.int .u8 (48 + z)] 5)) = .ok (.string ⟨#[UInt8.ofNat (48 + d)]⟩) (w.alloc (.cells #[.int .u8 (48 + z)] 5)) := by
 have h := run_convert_bytes_back (P := Tryz.prog) (w.alloc (.cells #[.int .u8 (48 + z)] 5)) 76 9 5 ⟨w.heap.size, 0, none⟩ 1 [UInt8.ofNat (48 + d)] Tryz.underlying76 Tryz.underlying5 Tryz.underlying9 (fun j hj => by
  obtain rfl : j = 0 := by simpa using hj
  simp only [List.getElem_cons_zero, Zp hd, Addr.add]
  rw [hz]
  simp [go_sem])
 exact h
theorem Vm (k : Nat) (t : List UInt8) : Value.string (({ data := #[48 + UInt8.ofNat k] } : ByteArray) ++ { data := t.toArray }) = .string ⟨(UInt8.ofNat (48 + k) :: t).toArray⟩ := by
 rw [show (48 : UInt8) + UInt8.ofNat k = UInt8.ofNat (48 + k) by rw [UInt8.ofNat_add];rfl]
 congr 1
theorem A1g (s t : List UInt8) : (({ data := s.toArray } : ByteArray) ++ { data := t.toArray }) = ⟨(s ++ t).toArray⟩ := by
 show ByteArray.mk s.toArray ++ ByteArray.mk t.toArray = _
 rw [ByteArray.mk_append_mk]
theorem Vn : ∀ (k u : Nat), u < 10 ^ (k + 1) -> Lib.nDigits u <= k + 1
 | 0, u, h => by rw [Lib.nDigits_small (by simpa using h)];omega
 | k + 1, u, h => by
  by_cases h1 : u < 10
  ·rw [Lib.nDigits_small h1];omega
  ·rw [Lib.nDigits_big h1]
   have := Vn k (u / 10) (by rw [Nat.pow_succ] at h;omega)
   omega
theorem Tb {u : Nat} (hu : u < 18446744073709551616) : (Lib.decDigits u).length <= 20 := by
 rw [Lib.decDigits_length]
 exact Vn 19 u (by omega)
theorem A0p {m u : Nat} {t : List UInt8} (h : Lib.decDigits m ++ t = Lib.decDigits u) (h9 : 9 < m) : Lib.decDigits (m / 10) ++ (UInt8.ofNat (48 + m % 10) :: t) = Lib.decDigits u := by
 rw [<- h, Kd (m := m) (by omega)];simp
theorem A0o {m u : Nat} {t : List UInt8} (h : Lib.decDigits m ++ t = Lib.decDigits u) (h9 : ¬ 9 < m) : UInt8.ofNat (48 + m) :: t = Lib.decDigits u := by
 rw [<- h, Lib.decDigits_one (i := m) (by omega)];simp
set_option maxRecDepth 100000 in
theorem Nt (u : Nat) (hu : u < 18446744073709551616) (w : World) :
  Calls Tryz.prog 80 #[.int .u64 u] w fun e w' => e = .returned (.string ⟨(Lib.decDigits u).toArray⟩) /\ Tr w w' := by
 go_enter Tryz.func80, Tryz.ntmps80
 go_wp2
 go_loopw [0, 3] (fun n s wr => ∃ (m : Nat) (t : List UInt8), n = .int .u64 m /\ s = .string ⟨t.toArray⟩ /\ m <= u /\ Hid (Lib.decDigits m ++ t = Lib.decDigits u) /\ Tr w wr) (fun n _ _ => (intOf n).toNat)
 case atStart => exact ⟨u, [], rfl, rfl, by omega, (by simp : Lib.decDigits u ++ [] = Lib.decDigits u), (by repeat (first | exact Tr.refl _ | assumption | apply Tr.al | apply Tr.drN | apply Tr.dr|(refine Tr.set ?_ (by first | omega|(simp;done)|(simp;omega)) _)))⟩
 case round =>
  obtain ⟨m, t, rfl, rfl, hm, HD, T⟩ := hrel
  have hzz := Below.size T
  have hl : t.length <= 20 := by
   have h1 := congrArg List.length HD.out
   have h2 := Tb hu
   simp at h1
   omega
  by_cases h9 : 9 < m
  ·have hc := S2 wr ((m : Int) % 10) (m % 10) (by omega) (by omega)
   have HB := Lib.hid (A0p HD.out h9)
   go_wp2
   go_roundw
   case rel => exact ⟨m / 10, UInt8.ofNat (48 + m % 10) :: t, by go_num, Vm _ _, by omega, HB, (by repeat (first | exact Tr.refl _ | assumption | apply Tr.al | apply Tr.drN | apply Tr.dr|(refine Tr.set ?_ (by first | omega|(simp;done)|(simp;omega)) _)))⟩
   case measure => simp [intOf];omega
  ·have hc := S2 wr (m : Int) m (by omega) (by omega)
   have HB := Lib.hid (A0o HD.out h9)
   go_wp2
   go_ret
   refine ⟨?_, (by repeat (first | exact Tr.refl _ | assumption | apply Tr.al | apply Tr.drN | apply Tr.dr|(refine Tr.set ?_ (by first | omega|(simp;done)|(simp;omega)) _)))⟩
   rw [<- HB.out, <- Vm]
   rfl
theorem Tw (q : Rat) : D9 q = ⟨((if q.num < 0 then [45] else []) ++ Lib.decDigits q.num.natAbs ++ (if (q.den : Int) = 1 then [] else 47 :: Lib.decDigits (q.den : Int).natAbs)).toArray⟩ := by
 have h1 := q.den_pos
 apply Ei
 have e1 : Lib.itoa (q.den : Int) = Lib.decDigits q.den := by
  unfold Lib.itoa
  rw [if_neg (by omega), Int.toNat_natCast]
 have e2 : Lib.itoa q.num = (if q.num < 0 then [45] else []) ++ Lib.decDigits q.num.natAbs := by
  unfold Lib.itoa
  by_cases hn : q.num < 0
  ·simp [hn]
  ·have e3 : q.num.toNat = q.num.natAbs := by omega
   simp [hn, e3]
 unfold D9
 by_cases hd : q.den = 1
 ·rw [if_pos hd, if_pos (show ((q.den : Nat) : Int) = 1 by omega)]
  simp only [Af]
  rw [e2];simp
 ·rw [if_neg hd, if_neg (show ¬ ((q.den : Nat) : Int) = 1 by omega)]
  rw [Ce, Ce]
  simp only [Af]
  rw [e1, e2, Int.natAbs_natCast];simp
set_option maxRecDepth 100000 in
theorem A0q (n d : Int) (w : World) (hv : Bd n d = true) :
  Calls Tryz.prog 35 #[.agg #[.int .i64 n, .int .i64 d]] w fun e w' => e = .returned (.string ⟨((if n < 0 then [45] else []) ++ Lib.decDigits n.natAbs ++ (if d = 1 then [] else 47 :: Lib.decDigits d.natAbs)).toArray⟩) /\ Tr w w' := by
 obtain ⟨a1, a2, a3, a4, _⟩ := validB_spec.1 hv
 clear hv
 have l1 := Tb (u := n.natAbs) (by omega)
 have l2 := Tb (u := d.natAbs) (by omega)
 have C1 := Lib.hid fun W => Nt n.natAbs (by omega) W
 have C2 := Lib.hid fun W => Nt d.natAbs (by omega) W
 generalize Lib.decDigits n.natAbs = s at *
 generalize Lib.decDigits d.natAbs = t at *
 by_cases hn : n < 0 <;> by_cases hd : d = 1
 all_goals
  have hd' : (d == 1) = decide (d = 1) := rfl
  go_enter Tryz.func35, Tryz.ntmps35
  go_wp2_with (first
   | (go_at_call 81;(with_reducible refine (Fd _ (by omega) (by omega) _).mono ?_);rintro e wS ⟨rfl, rfl⟩)
   | (go_at_call 80;(with_reducible refine (C1.out _).mono ?_);rintro e w2 ⟨rfl, ht2⟩;have T2 : Tr w w2 := Tr.trans (by repeat (first | exact Tr.refl _ | assumption | apply Tr.al | apply Tr.drN | apply Tr.dr|(refine Tr.set ?_ (by first | omega|(simp;done)|(simp;omega)) _))) ht2;have K2 := Keep.tr (l := [(⟨w.heap.size, 0, none⟩, .int .i64 (n)), (⟨w.heap.size, 1, none⟩, .int .i64 (d))]) (by first|(simp [Keep, go_sem, *];done)|(simp [Keep, go_sem, *];omega)|(simp (disch := first | omega|(simp;omega)|(simp;done)) [Keep, go_sem, A4, A5, RowKit.frozen?_alloc_cells, A1, *];done)|(simp (disch := first | omega|(simp;omega)|(simp;done)) [Keep, go_sem, A4, A5, RowKit.frozen?_alloc_cells, A1, *];omega)) ht2;have hz2 := Below.size ht2;(try simp at hz2);clear ht2;simp only [Keep] at K2)
   | (go_at_call 80;(with_reducible refine (C2.out _).mono ?_);rintro e w3 ⟨rfl, ht3⟩;have T3 : Tr w w3 := Tr.trans (by repeat (first | exact Tr.refl _ | assumption | apply Tr.al | apply Tr.drN | apply Tr.dr|(refine Tr.set ?_ (by first | omega|(simp;done)|(simp;omega)) _))) ht3;have K3 := Keep.tr (l := [(⟨w.heap.size, 0, none⟩, .int .i64 (n)), (⟨w.heap.size, 1, none⟩, .int .i64 (d))]) (by first|(simp [Keep, go_sem, *];done)|(simp [Keep, go_sem, *];omega)|(simp (disch := first | omega|(simp;omega)|(simp;done)) [Keep, go_sem, A4, A5, RowKit.frozen?_alloc_cells, A1, *];done)|(simp (disch := first | omega|(simp;omega)|(simp;done)) [Keep, go_sem, A4, A5, RowKit.frozen?_alloc_cells, A1, *];omega)) ht3;have hz3 := Below.size ht3;(try simp at hz3);clear ht3;simp only [Keep] at K3))
  go_ret
  refine ⟨?_, (by repeat (first | exact Tr.refl _ | assumption | apply Tr.al | apply Tr.drN | apply Tr.dr|(refine Tr.set ?_ (by first | omega|(simp;done)|(simp;omega)) _)))⟩
  simp [A1g, *]
theorem Yb (q : Rat) (hq : Fits q) : Fn0 Tryz.prog 35 [A6 (frR q)] (.s (D9 q)) := by
 rw [Tw q]
 refine Fn0.of_calls (us := [.agg #[.int .i64 q.num, .int .i64 q.den]]) ⟨_, Tryz.func35, rfl, rfl⟩ rfl (fun w L => A9 _) fun w => ?_
 exact A0q q.num q.den w hq.valid
end Go.Proofs.YtcfjofhapbkmfaaGreatDoor
namespace Go.Proofs.YtcfjofhapbkmfaaGreatDoor
open Go Go.RowKit
/-! ### Insertion as a list cut in two -/
theorem Lm {key : Nat -> Int} {e : Nat} : ∀ (D T : List Nat), (∀ x ∈ D, key e < key x) -> (∀ x, T.head? = some x -> ¬ key e < key x) -> Cc key e (D ++ T) = D ++ e :: T
 | [], [], _, _ => rfl
 | [], a :: r, _, h => by
  show Cc key e (a :: r) = e :: a :: r
  unfold Cc
  rw [if_neg (h a rfl)]
 | a :: D, T, h, ht => by
  show Cc key e (a :: (D ++ T)) = a :: (D ++ e :: T)
  unfold Cc
  rw [if_pos (h a (by simp)), Lm D T (fun x hx => h x (by simp [hx])) ht]
theorem Y5 {key : Nat -> Int} {i k : Nat} (h1 : ∀ x ∈ (Ac key i).drop k, key i < key x) (h2 : ∀ j x, k = j + 1 -> (Ac key i)[j]? = some x -> ¬ key i < key x) (hk : k <= i) : Ac key (i + 1) = (Ac key i).take k ++ i :: (Ac key i).drop k := by
 rw [Ac]
 have hs : (Ac key i).reverse = ((Ac key i).drop k).reverse ++ ((Ac key i).take k).reverse := by rw [<- List.reverse_append, List.take_append_drop]
 rw [hs, Lm _ _ (fun x hx => h1 x (List.mem_reverse.1 hx)) (fun x hx => ?_)]
 ·simp
 ·rw [List.head?_reverse] at hx
  cases k with
  | zero => simp at hx
  | succ j =>
   refine h2 j x rfl ?_
   rw [List.getLast?_eq_getElem?, List.length_take, Bk, Nat.min_eq_left hk, Nat.add_sub_cancel, List.getElem?_take, if_pos (by omega)] at hx
   exact hx
/-! ### Weights -/
def Co (s : SetR) : Int := s.pipe * (s.length / 1000)
def itW (l : List ItemR) : Int := (l.map ItemR.weight).sum
def wtS (s : SetR) : Int := Co s + itW s.items
def bkS (l : List BrickR) : Int := (l.map fun b => b.weight * b.count).sum
def ndS (s : SetR) : Int := wtS s * s.purchase - s.arbor
def Br (s : SetR) : Int := ndS s - bkS s.bricks
def Gf (s : SetR) : Prop := -s.brake <= Br s /\ Br s <= s.brake
instance instHldS (s : SetR) : Decidable (Gf s) := by unfold Gf;exact inferInstance
def ptW (s : SetR) : Int := wtS s + s.arbor + bkS s.bricks
theorem Pp {l : List ItemR} {k : Nat} {x : ItemR} (hx : l[k]? = some x) : itW (l.take (k + 1)) = itW (l.take k) + x.weight := by
 unfold itW
 rw [Ai hx, List.map_append, List.sum_append];simp
theorem Ju {l : List BrickR} {k : Nat} {x : BrickR} (hx : l[k]? = some x) : bkS (l.take (k + 1)) = bkS (l.take k) + x.weight * x.count := by
 unfold bkS
 rw [Ai hx, List.map_append, List.sum_append];simp
theorem O7 {l : List Int} {B : Int} (h : ∀ x ∈ l, 0 <= x /\ x <= B) : 0 <= l.sum /\ l.sum <= l.length * B := by
 induction l with
 | nil => simp
 | cons a l ih =>
  have h1 := h a (by simp)
  have h2 := ih fun x hx => h x (by simp [hx])
  rw [List.sum_cons, List.length_cons, Int.natCast_add, Int.add_mul, Int.natCast_one, Int.one_mul]
  omega
theorem Dv {s : SetR} (h : Bf s) : 0 <= Co s /\ Co s <= 1098907648 := by
 obtain ⟨_, _, _, _, _, h5, _, _, h8, _⟩ := h
 have := De (a := s.pipe) (b := s.length / 1000) (A := 1048576) (B := 1048) (by omega) (by omega)
 unfold Co
 omega
theorem F8 {s : SetR} (h : Bf s) (k : Nat) : 0 <= itW (s.items.take k) /\ itW (s.items.take k) <= 41943040 := by
 obtain ⟨_, _, _, _, _, _, _, _, _, _, _, _, _, hi, _⟩ := h
 have h1 := O7 (l := (s.items.take k).map ItemR.weight) (B := 1048576) fun x hx => by
  obtain ⟨y, hy, rfl⟩ := List.mem_map.1 hx
  exact (hi.2.2.1 y (List.mem_of_mem_take hy)).1.2.1
 have h2 : ((s.items.take k).map ItemR.weight).length <= 40 := by
  have := hi.1
  rw [List.length_map, List.length_take];omega
 unfold itW
 omega
theorem C0 {s : SetR} (h : Bf s) (k : Nat) : 0 <= bkS (s.bricks.take k) /\ bkS (s.bricks.take k) <= 503316480 := by
 obtain ⟨_, _, _, _, _, _, _, _, _, _, _, _, _, _, hb⟩ := h
 have h1 := O7 (l := (s.bricks.take k).map fun b => b.weight * b.count) (B := 62914560) fun x hx => by
  obtain ⟨y, hy, rfl⟩ := List.mem_map.1 hx
  obtain ⟨_, h2, h3⟩ := hb.2.2.1 y (List.mem_of_mem_take hy)
  exact De (a := y.weight) (b := y.count) (A := 1048576) (B := 60) (by omega) (by omega)
 have h2 : ((s.bricks.take k).map fun b => b.weight * b.count).length <= 8 := by
  have := hb.1
  rw [List.length_map, List.length_take];omega
 unfold bkS
 omega
/-! ### Beams -/
def ovR (x : RoofR) (d : Int) : Prop := x.from_ <= d /\ d <= x.to
instance instOvR (x : RoofR) (d : Int) : Decidable (ovR x d) := by unfold ovR;exact inferInstance
def Ap (l : List RoofR) (d : Int) : Nat := (l.filter fun x => decide (ovR x d)).length
theorem Nd {l : List RoofR} {k : Nat} {x : RoofR} (d : Int) (hx : l[k]? = some x) : Ap (l.take (k + 1)) d = Ap (l.take k) d + if ovR x d then 1 else 0 := by
 unfold Ap
 rw [Ai hx, List.filter_append, List.length_append]
 by_cases h : ovR x d <;> simp [h]
theorem D6 (l : List RoofR) (d : Int) : Ap l d <= l.length := List.length_filter_le _ _
theorem X6 {l : List RoofR} {d : Int} {x : RoofR} (hx : x ∈ l) (h : ovR x d) : 0 < Ap l d := by
 unfold Ap
 exact List.length_pos_of_mem (List.mem_filter.2 ⟨hx, by simpa using h⟩)
def shQ (l : List RoofR) (s : SetR) : Rat := Aq (ptW s) (Ap l s.depth)
def brQ (l : List RoofR) (S : List SetR) (x : RoofR) : Rat := S.foldl (fun q s => if ovR x s.depth then q + shQ l s else q) 0
theorem Gy {l : List RoofR} {S : List SetR} {k : Nat} {s : SetR} (x : RoofR) (hs : S[k]? = some s) : brQ l (S.take (k + 1)) x = if ovR x s.depth then brQ l (S.take k) x + shQ l s else brQ l (S.take k) x := by
 unfold brQ
 rw [Ai hs, List.foldl_append];rfl
theorem Nv {n d m e : Int} (hd : d ≠ 0) (he : e ≠ 0) : Aq n d + Aq m e = Aq (n * e + m * d) (d * e) := by
 unfold Aq
 exact Rat.divInt_add_divInt n m hd he
theorem Re {l : List RoofR} {x : RoofR} (hx : x ∈ l) (hl : l.length <= 20) {S : List SetR} (h : ∀ s ∈ S, 0 <= ptW s /\ ptW s <= 67108864) : ∀ k, k <= S.length -> ∃ n d : Int, brQ l (S.take k) x = Aq n d /\ 0 <= n /\ n <= k * (67108864 * 20 ^ k) /\ 1 <= d /\ d <= 20 ^ k := by
 intro k
 induction k with
 | zero => intro _;exact ⟨0, 1, by unfold brQ Aq;rfl, by simp, by simp, by simp, by simp⟩
 | succ k ih =>
  intro hk
  obtain ⟨n, d, e, h1, h2, h3, h4⟩ := ih (by omega)
  obtain ⟨s, hs⟩ := Aa (l := S) (k := k) (by omega)
  have hp : (1 : Int) <= 20 ^ k := Int.pow_pos (by decide)
  rw [Gy x hs, Int.pow_succ, e]
  generalize (20 : Int) ^ k = P at *
  have hLP := Int.mul_nonneg (by omega : (0 : Int) <= (k : Int)) (by omega : (0 : Int) <= P)
  have e2 : ((k + 1 : Nat) : Int) * (67108864 * (P * 20)) = 1342177280 * ((k : Int) * P) + 1342177280 * P := by
   rw [Int.natCast_add, Int.natCast_one];grind
  have e3 : (k : Int) * (67108864 * P) = 67108864 * ((k : Int) * P) := by grind
  rw [e3] at h2
  rw [e2]
  generalize (k : Int) * P = Q at *
  split
  ·rename_i ho
   have c1 := X6 hx ho
   have c2 := D6 l s.depth
   obtain ⟨w1, w2⟩ := h s (List.mem_of_getElem? hs)
   unfold shQ
   generalize Ap l s.depth = c at *
   have a1 := De (a := n) (b := (c : Int)) (A := 67108864 * Q) (B := 20) (by omega) (by omega)
   have a2 := De (a := ptW s) (b := d) (A := 67108864) (B := P) (by omega) (by omega)
   have a3 := De (a := d) (b := (c : Int)) (A := P) (B := 20) (by omega) (by omega)
   have a4 := A0m (a := d) (b := (c : Int)) (by omega) (by omega)
   exact ⟨n * c + ptW s * d, d * c, Nv (by omega) (by omega), by omega, by omega, by omega, by omega⟩
  ·exact ⟨n, d, rfl, by omega, by omega, by omega, by omega⟩
theorem Mf {l : List RoofR} {x : RoofR} (hx : x ∈ l) (hl : l.length <= 20) {S : List SetR} (h : ∀ s ∈ S, 0 <= ptW s /\ ptW s <= 67108864) (h5 : S.length <= 5) {k : Nat} (hk : k <= S.length) : Fits (brQ l (S.take k) x) := by
 obtain ⟨n, d, e, h1, h2, h3, h4⟩ := Re hx hl h k hk
 rw [e]
 have hp : (20 : Int) ^ k <= 3200000 := by
  have : k = 0 \/ k = 1 \/ k = 2 \/ k = 3 \/ k = 4 \/ k = 5 := by omega
  rcases this with e | e | e | e | e | e <;> rw [e] <;> decide
 have hp0 : (1 : Int) <= 20 ^ k := Int.pow_pos (by decide)
 have := De (a := (k : Int)) (b := 67108864 * 20 ^ k) (A := 5) (B := 67108864 * 3200000) (by omega) (by omega)
 exact Ib (by omega) (by omega) (by omega) (by omega)
def hwN (h : HouseR) : List ByteArray := [⟨#[104, 111, 117, 115, 101]⟩, h.name, Af h.height]
def hwX (s : SetR) : ByteArray := if Gf s then ⟨#[104, 111, 108, 100, 115]⟩ else ⟨#[115, 108, 105, 112, 115]⟩
def hwS (s : SetR) : List ByteArray := [⟨#[115, 101, 116]⟩, s.name, ⟨#[100, 101, 112, 116, 104]⟩, Af s.depth, ⟨#[119, 101, 105, 103, 104, 116]⟩, Af (wtS s), ⟨#[105, 109, 98, 97, 108, 97, 110, 99, 101]⟩, Af (Br s), hwX s]
def hwB (h : HouseR) (x : RoofR) : List ByteArray := [⟨#[98, 101, 97, 109]⟩, x.name, ⟨#[98, 101, 97, 114, 115]⟩, D9 (brQ h.roofs h.sets x), ⟨#[111, 102]⟩, Af x.most]
def Ek (h : HouseR) : Prop := (∀ s ∈ h.sets, ptW s <= 67108864) /\ ∀ s ∈ h.sets, 0 < Ap h.roofs s.depth
noncomputable instance instBrOk (h : HouseR) : Decidable (Ek h) := Classical.propDecidable _
def Ak (h : HouseR) (i : Nat) : Int := (h.sets[i]?.map SetR.depth).getD 0
def wsI (h : HouseR) (i : Nat) : List ByteArray := (h.sets[i]?.map hwS).getD []
def hT1 (h : HouseR) (l : List Nat) : List UInt8 := bytesOf (hwN h :: l.map (wsI h))
def hT2 (h : HouseR) (l : List Nat) (r : List RoofR) : List UInt8 := hT1 h l ++ bytesOf (r.map (hwB h))
noncomputable def hLs (h : HouseR) : List (List ByteArray) := (hwN h :: (Ac (Ak h) h.sets.length).map (wsI h)) ++ if Ek h then h.roofs.map (hwB h) else []
noncomputable def hTx (h : HouseR) : List UInt8 := bytesOf (hLs h)
theorem Rq {h : HouseR} (b : Ek h) : hTx h = hT2 h (Ac (Ak h) h.sets.length) h.roofs := by
 unfold hTx hLs hT2 hT1
 rw [if_pos b, Fs]
theorem Uu {h : HouseR} (b : ¬ Ek h) : hTx h = hT1 h (Ac (Ak h) h.sets.length) := by
 unfold hTx hLs hT1
 rw [if_neg b, List.append_nil]
theorem Ro (h : HouseR) : hT1 h [] = Bu (hwN h) := by simp [hT1, bytesOf]
theorem Pd {h : HouseR} {l : List Nat} {k i : Nat} {s : SetR} (hx : l[k]? = some i) (hs : h.sets[i]? = some s) : hT1 h (l.take (k + 1)) = hT1 h (l.take k) ++ Bu (hwS s) := by
 unfold hT1
 have : wsI h i = hwS s := by unfold wsI;rw [hs];rfl
 rw [Ai hx, List.map_append, <- List.cons_append, Fs, List.map_cons, List.map_nil, Nb, this]
theorem Rp (h : HouseR) (l : List Nat) : hT2 h l [] = hT1 h l := by simp [hT2, bytesOf]
theorem Pe {h : HouseR} {l : List Nat} {r : List RoofR} {k : Nat} {x : RoofR} (hx : r[k]? = some x) : hT2 h l (r.take (k + 1)) = hT2 h l (r.take k) ++ Bu (hwB h x) := by
 unfold hT2
 rw [Ai hx, List.map_append, Fs, List.map_cons, List.map_nil, Nb, List.append_assoc]
/-! ### Shapes -/
theorem A0x (L : List UInt8) (a b c : ByteArray) : L ++ a.data.toList ++ (⟨#[32]⟩ : ByteArray).data.toList ++ b.data.toList ++ (⟨#[32]⟩ : ByteArray).data.toList ++ c.data.toList ++ (⟨#[10]⟩ : ByteArray).data.toList = L ++ Bu [a, b, c] := by
 simp [Bu, Lib.join, List.intercalate]
/-! ### Sizes;clean words -/
theorem Xv {ws : List ByteArray} (h1 : ws.length <= 9) (h2 : ∀ w ∈ ws, w.size <= 60) : (Bu ws).length <= 550 := by
 have := Rs (B := 60) [32] (ws.map (·.data.toList)) fun w hw => by
  obtain ⟨x, hx, rfl⟩ := List.mem_map.1 hw
  have := h2 x hx
  rwa [Db]
 unfold Bu
 rw [List.length_append]
 rw [List.length_map] at this
 simp only [List.length_cons, List.length_nil] at this ⊢
 omega
theorem I8 : ∀ (L : List (List ByteArray)), (∀ ws ∈ L, ws.length <= 9 /\ ∀ w ∈ ws, w.size <= 60) -> (bytesOf L).length <= L.length * 550
 | [], _ => by simp [bytesOf]
 | ws :: L, h => by
  obtain ⟨a1, a2⟩ := h ws (by simp)
  have h1 := Xv a1 a2
  have h2 := I8 L fun x hx => h x (by simp [hx])
  have e : bytesOf (ws :: L) = Bu ws ++ bytesOf L := rfl
  rw [e, List.length_append, List.length_cons, Nat.succ_mul]
  omega
theorem Ch {s : ByteArray} (h : Bp s = true) : s.size <= 20 := by
 simp only [Bp, Bool.and_eq_true, decide_eq_true_eq] at h
 have := h.1.1.2
 omega
theorem C5 {s : SetR} (h : Bf s) : 0 <= wtS s /\ wtS s <= 1140850688 := by
 have h1 := Dv h
 have h2 := F8 h s.items.length
 rw [List.take_length] at h2
 unfold wtS
 omega
theorem F9 {s : SetR} (h : Bf s) : -1048576 <= ndS s /\ ndS s <= 2281701376 := by
 have h1 := C5 h
 obtain ⟨_, _, _, _, _, _, _, _, _, h8, h9, _⟩ := h
 have := De (a := wtS s) (b := s.purchase) (A := 1140850688) (B := 2) (by omega) (by omega)
 unfold ndS
 omega
theorem Ej {s : SetR} (h : Bf s) : -504365056 <= Br s /\ Br s <= 2281701376 := by
 have h1 := F9 h
 have h2 := C0 h s.bricks.length
 rw [List.take_length] at h2
 unfold Br
 omega
theorem G9 {s : SetR} (h : Bf s) : 0 <= ptW s /\ ptW s <= 1645215744 := by
 have h1 := C5 h
 have h2 := C0 h s.bricks.length
 rw [List.take_length] at h2
 obtain ⟨_, _, _, _, _, _, _, _, _, h8, h9, _⟩ := h
 unfold ptW
 omega
theorem A09 {h : HouseR} (hp : Az h) : (hwN h).length <= 9 /\ ∀ w ∈ hwN h, w.size <= 60 := by
 have h1 := Ch hp.1
 have h2 := Ar (n := h.height) (by have := hp.2.1;omega) (by have := hp.2.2.1;omega)
 refine ⟨by simp [hwN], fun w hw => ?_⟩
 simp only [hwN, List.mem_cons, List.not_mem_nil, or_false] at hw
 rcases hw with rfl | rfl | rfl
 ·decide
 ·omega
 ·omega
theorem Xo (s : SetR) : (hwX s).size = 5 := by
 unfold hwX
 split <;> rfl
theorem A0a {s : SetR} (hp : Bf s) : (hwS s).length <= 9 /\ ∀ w ∈ hwS s, w.size <= 60 := by
 have h1 := Ch hp.1
 have h2 := Ar (n := s.depth) (by have := hp.2.1;omega) (by have := hp.2.1;omega)
 have h3 := Ar (n := wtS s) (by have := C5 hp;omega) (by have := C5 hp;omega)
 have h4 := Ar (n := Br s) (by have := Ej hp;omega) (by have := Ej hp;omega)
 have h5 := Xo s
 refine ⟨by simp [hwS], fun w hw => ?_⟩
 simp only [hwS, List.mem_cons, List.not_mem_nil, or_false] at hw
 rcases hw with rfl | rfl | rfl | rfl | rfl | rfl | rfl | rfl | rfl
 ·decide
 ·omega
 ·decide
 ·omega
 ·decide
 ·omega
 ·decide
 ·omega
 ·omega
theorem A08 {h : HouseR} {x : RoofR} (hp : Hs x) (hf : Fits (brQ h.roofs h.sets x)) : (hwB h x).length <= 9 /\ ∀ w ∈ hwB h x, w.size <= 60 := by
 have h1 := Ch hp.1
 have h2 := Ar (n := x.most) (by have := hp.2.2.2.2;omega) (by have := hp.2.2.2.2;omega)
 have h3 := Hv hf
 refine ⟨by simp [hwB], fun w hw => ?_⟩
 simp only [hwB, List.mem_cons, List.not_mem_nil, or_false] at hw
 rcases hw with rfl | rfl | rfl | rfl | rfl | rfl
 ·decide
 ·omega
 ·decide
 ·omega
 ·decide
 ·omega
theorem I7 {h : HouseR} (hp : Az h) (b : Ek h) (h5 : h.sets.length <= 5) {x : RoofR} (hx : x ∈ h.roofs) {k : Nat} (hk : k <= h.sets.length) : Fits (brQ h.roofs (h.sets.take k) x) := by
 refine Mf hx hp.2.2.2.2.1.1 (fun s hs => ⟨(G9 (hp.2.2.2.2.2.1 s hs).1).1, b.1 s hs⟩) h5 hk
theorem Pc {h : HouseR} (hp : Az h) {l : List Nat} (hl : ∀ i ∈ l, i < h.sets.length) : (hT1 h l).length <= (l.length + 1) * 550 := by
 have := I8 (hwN h :: l.map (wsI h)) fun ws hw => by
  rcases List.mem_cons.1 hw with rfl | hw
  ·exact A09 hp
  ·obtain ⟨i, hi, rfl⟩ := List.mem_map.1 hw
   obtain ⟨s, hs⟩ := Aa (hl i hi)
   have : wsI h i = hwS s := by unfold wsI;rw [hs];rfl
   rw [this]
   exact A0a (hp.2.2.2.2.2.1 s (List.mem_of_getElem? hs)).1
 rwa [List.length_cons, List.length_map] at this
theorem Ut {h : HouseR} (hp : Az h) (b : Ek h) (h5 : h.sets.length <= 5) {l : List Nat} (hl : ∀ i ∈ l, i < h.sets.length) {r : List RoofR} (hr : ∀ x ∈ r, x ∈ h.roofs) : (hT2 h l r).length <= (l.length + 1) * 550 + r.length * 550 := by
 have h1 := Pc hp hl
 have h2 := I8 (r.map (hwB h)) fun ws hw => by
  obtain ⟨x, hx, rfl⟩ := List.mem_map.1 hw
  have := I7 hp b h5 (hr x hx) (k := h.sets.length) (Nat.le_refl _)
  rw [List.take_length] at this
  exact A08 (hp.2.2.2.2.1.2.1 x (hr x hx)) this
 rw [List.length_map] at h2
 unfold hT2
 rw [List.length_append]
 omega
end Go.Proofs.YtcfjofhapbkmfaaGreatDoor
