/- Contracts: the texts of fractions that fit (ratio.Text, the reference's Text). No conditions but those of each statement. -/
import Derived.Test.YtcfjofhapbkmfaaGreatDoorMp
import Derived.Test.YtcfjofhapbkmfaaGreatDoorYc
import Derived.Test.YtcfjofhapbkmfaaGreatDoorMy
import Derived.Laws.IdiomStrings
import Derived.Test.YtcfjofhapbkmfaaGreatDoorYj
import Derived.Test.YtcfjofhapbkmfaaGreatDoorMj
import Derived.Test.YtcfjofhapbkmfaaGreatDoorXb
set_option linter.unusedSimpArgs false
set_option linter.unusedVariables false
namespace Go.Proofs.YtcfjofhapbkmfaaGreatDoor
open Go Go.RowKit Go.Sort
def Du (q : Rat) : ByteArray := if q.den = 1 then Ad q.num else Ad q.num ++ ⟨#[47]⟩ ++ Ad q.den
theorem Jv {q : Rat} (h : Fits q) : (Du q).size <= 43 := by
 obtain ⟨h1, h2⟩ := h
 have s1 := B6 (n := q.num) (by omega) (by omega)
 have s2 := B6 (n := (q.den : Int)) (by omega) (by omega)
 unfold Du
 split
 ·omega
 ·rw [ByteArray.size_append, ByteArray.size_append, show (⟨#[47]⟩ : ByteArray).size = 1 from rfl];omega
set_option maxHeartbeats 2000000 in
theorem L3 (q : Rat) (hq : Fits q) : Fn0 Tryz.prog 68 [A2 (frR q)] (.tup [.s (Du q), .i 0]) := by
 have hv := Ip q.num q.den
 rw [hq.valid] at hv
 obtain ⟨h1, h2⟩ := hq
 have h3 := q.den_pos
 have i1 := Bn q.num (by omega) (by omega)
 have i2 := Bn (q.den : Int) (by omega) (by omega)
 have s1 := B6 (n := q.num) (by omega) (by omega)
 have s2 := B6 (n := (q.den : Int)) (by omega) (by omega)
 have s3 : (⟨#[47]⟩ : ByteArray).size = 1 := rfl
 unfold Du
 show Fn0 Tryz.prog 68 [A2 [.i q.num, .i (q.den : Int)]] _
 generalize q.num = n at *
 by_cases hd : q.den = 1
 ·rw [if_pos hd]
  have hd' : ((q.den : Nat) : Int) = 1 := by omega
  generalize ((q.den : Nat) : Int) = d at *
  have c2 : Fn0 Tryz.prog 118 [A2 [.i n, .i d]] (.s (Ad n)) := by
   refine Fn0.of Tryz.func118 Tryz.ntmps118 rfl rfl rfl ?_
   simp only [A0]
   repeat' (first
    | refine W ?_
    | refine Y ?_
    | refine V ?_
    | (refine W2 ?_ ?_ <;> intro hc))
   all_goals exact A3 (by simp) Tryz.results118 rfl rfl
  refine Fn0.of Tryz.func68 Tryz.ntmps68 rfl rfl rfl ?_
  simp only [A0]
  repeat' (first
   | refine W ?_
   | refine Y ?_
   | refine V ?_
   | (refine W2 ?_ ?_ <;> intro hc))
  all_goals exact D2 rfl rfl rfl
 ·rw [if_neg hd]
  have hd' : ¬ ((q.den : Nat) : Int) = 1 := by omega
  generalize ((q.den : Nat) : Int) = d at *
  have c2 : Fn0 Tryz.prog 118 [A2 [.i n, .i d]] (.s (Ad n ++ ⟨#[47]⟩ ++ Ad d)) := by
   refine Fn0.of Tryz.func118 Tryz.ntmps118 rfl rfl rfl ?_
   simp only [A0]
   repeat' (first
    | refine W ?_
    | refine Y ?_|(apply S.strAdd;(iterate 3 exact rfl);first | omega|(simp only [ByteArray.size_append];omega))|(apply T.drawAll A1 (by decide +kernel))|(apply T.draw 10 A1 (by decide +kernel);simp only [td])|(apply T.drawR 10 A1 (by decide +kernel);simp only [td])
    | refine V ?_
    | (refine W2 ?_ ?_ <;> intro hc))
   all_goals exact A3 (by simp) Tryz.results118 rfl rfl
  refine Fn0.of Tryz.func68 Tryz.ntmps68 rfl rfl rfl ?_
  simp only [A0]
  repeat' (first
   | refine W ?_
   | refine Y ?_
   | refine V ?_
   | (refine W2 ?_ ?_ <;> intro hc))
  all_goals exact D2 rfl rfl rfl
/-! ### The reference's -/
end Go.Proofs.YtcfjofhapbkmfaaGreatDoor
namespace Go.Proofs.YtcfjofhapbkmfaaGreatDoor
open Go Go.RowKit
/-! ### Insertion as a list cut in two -/
/-! ### Weights -/
def E8 (s : SetR) : Int := s.pipe * (s.length / 1000)
def itW (l : List ItemR) : Int := (l.map ItemR.weight).sum
def wtS (s : SetR) : Int := E8 s + itW s.items
def bkS (l : List BrickR) : Int := (l.map fun b => b.weight * b.count).sum
def ndS (s : SetR) : Int := wtS s * s.purchase - s.arbor
def D0 (s : SetR) : Int := ndS s - bkS s.bricks
def G9 (s : SetR) : Prop := -s.brake <= D0 s /\ D0 s <= s.brake
instance instHldS (s : SetR) : Decidable (G9 s) := by unfold G9;exact inferInstance
def ptW (s : SetR) : Int := wtS s + s.arbor + bkS s.bricks
theorem T5 {l : List ItemR} {k : Nat} {x : ItemR} (hx : l[k]? = some x) : itW (l.take (k + 1)) = itW (l.take k) + x.weight := by
 unfold itW
 rw [Ac hx, List.map_append, List.sum_append];simp
theorem Lw {l : List BrickR} {k : Nat} {x : BrickR} (hx : l[k]? = some x) : bkS (l.take (k + 1)) = bkS (l.take k) + x.weight * x.count := by
 unfold bkS
 rw [Ac hx, List.map_append, List.sum_append];simp
theorem L9 {l : List Int} {B : Int} (h : ∀ x ∈ l, 0 <= x /\ x <= B) : 0 <= l.sum /\ l.sum <= l.length * B := by
 induction l with
 | nil => simp
 | cons a l ih =>
  have h1 := h a (by simp)
  have h2 := ih fun x hx => h x (by simp [hx])
  rw [List.sum_cons, List.length_cons, Int.natCast_add, Int.add_mul, Int.natCast_one, Int.one_mul]
  omega
theorem Fl {s : SetR} (h : Bj s) : 0 <= E8 s /\ E8 s <= 1098907648 := by
 obtain ⟨_, _, _, _, _, h5, _, _, h8, _⟩ := h
 have := Dh (a := s.pipe) (b := s.length / 1000) (A := 1048576) (B := 1048) (by omega) (by omega)
 unfold E8
 omega
theorem Gx {s : SetR} (h : Bj s) (k : Nat) : 0 <= itW (s.items.take k) /\ itW (s.items.take k) <= 41943040 := by
 obtain ⟨_, _, _, _, _, _, _, _, _, _, _, _, _, hi, _⟩ := h
 have h1 := L9 (l := (s.items.take k).map ItemR.weight) (B := 1048576) fun x hx => by
  obtain ⟨y, hy, rfl⟩ := List.mem_map.1 hx
  exact (hi.2.2.1 y (List.mem_of_mem_take hy)).1.2.1
 have h2 : ((s.items.take k).map ItemR.weight).length <= 40 := by
  have := hi.1
  rw [List.length_map, List.length_take];omega
 unfold itW
 omega
theorem Dk {s : SetR} (h : Bj s) (k : Nat) : 0 <= bkS (s.bricks.take k) /\ bkS (s.bricks.take k) <= 503316480 := by
 obtain ⟨_, _, _, _, _, _, _, _, _, _, _, _, _, _, hb⟩ := h
 have h1 := L9 (l := (s.bricks.take k).map fun b => b.weight * b.count) (B := 62914560) fun x hx => by
  obtain ⟨y, hy, rfl⟩ := List.mem_map.1 hx
  obtain ⟨_, h2, h3⟩ := hb.2.2.1 y (List.mem_of_mem_take hy)
  exact Dh (a := y.weight) (b := y.count) (A := 1048576) (B := 60) (by omega) (by omega)
 have h2 : ((s.bricks.take k).map fun b => b.weight * b.count).length <= 8 := by
  have := hb.1
  rw [List.length_map, List.length_take];omega
 unfold bkS
 omega
/-! ### Beams -/
def ovR (x : RoofR) (d : Int) : Prop := x.from_ <= d /\ d <= x.to
instance instOvR (x : RoofR) (d : Int) : Decidable (ovR x d) := by unfold ovR;exact inferInstance
def Bb (l : List RoofR) (d : Int) : Nat := (l.filter fun x => decide (ovR x d)).length
theorem Q9 {l : List RoofR} {k : Nat} {x : RoofR} (d : Int) (hx : l[k]? = some x) : Bb (l.take (k + 1)) d = Bb (l.take k) d + if ovR x d then 1 else 0 := by
 unfold Bb
 rw [Ac hx, List.filter_append, List.length_append]
 by_cases h : ovR x d <;> simp [h]
theorem Dw (l : List RoofR) (d : Int) : Bb l d <= l.length := List.length_filter_le _ _
theorem Sl {l : List RoofR} {d : Int} {x : RoofR} (hx : x ∈ l) (h : ovR x d) : 0 < Bb l d := by
 unfold Bb
 exact List.length_pos_of_mem (List.mem_filter.2 ⟨hx, by simpa using h⟩)
def shQ (l : List RoofR) (s : SetR) : Rat := Be (ptW s) (Bb l s.depth)
def brQ (l : List RoofR) (S : List SetR) (x : RoofR) : Rat := S.foldl (fun q s => if ovR x s.depth then q + shQ l s else q) 0
theorem M0 {l : List RoofR} {S : List SetR} {k : Nat} {s : SetR} (x : RoofR) (hs : S[k]? = some s) : brQ l (S.take (k + 1)) x = if ovR x s.depth then brQ l (S.take k) x + shQ l s else brQ l (S.take k) x := by
 unfold brQ
 rw [Ac hs, List.foldl_append];rfl
theorem L2 {n d m e : Int} (hd : d ≠ 0) (he : e ≠ 0) : Be n d + Be m e = Be (n * e + m * d) (d * e) := by
 unfold Be
 exact Rat.divInt_add_divInt n m hd he
theorem Nw {l : List RoofR} {x : RoofR} (hx : x ∈ l) (hl : l.length <= 20) {S : List SetR} (h : ∀ s ∈ S, 0 <= ptW s /\ ptW s <= 67108864) : ∀ k, k <= S.length -> ∃ n d : Int, brQ l (S.take k) x = Be n d /\ 0 <= n /\ n <= k * (67108864 * 20 ^ k) /\ 1 <= d /\ d <= 20 ^ k := by
 intro k
 induction k with
 | zero => intro _;exact ⟨0, 1, by unfold brQ Be;rfl, by simp, by simp, by simp, by simp⟩
 | succ k ih =>
  intro hk
  obtain ⟨n, d, e, h1, h2, h3, h4⟩ := ih (by omega)
  obtain ⟨s, hs⟩ := A7 (l := S) (k := k) (by omega)
  have hp : (1 : Int) <= 20 ^ k := Int.pow_pos (by decide)
  rw [M0 x hs, Int.pow_succ, e]
  generalize (20 : Int) ^ k = P at *
  have hLP := Int.mul_nonneg (by omega : (0 : Int) <= (k : Int)) (by omega : (0 : Int) <= P)
  have e2 : ((k + 1 : Nat) : Int) * (67108864 * (P * 20)) = 1342177280 * ((k : Int) * P) + 1342177280 * P := by
   rw [Int.natCast_add, Int.natCast_one];grind
  have e3 : (k : Int) * (67108864 * P) = 67108864 * ((k : Int) * P) := by grind
  rw [e3] at h2
  rw [e2]
  generalize (k : Int) * P = Q at *
  split
  ·rename_i ho
   have c1 := Sl hx ho
   have c2 := Dw l s.depth
   obtain ⟨w1, w2⟩ := h s (List.mem_of_getElem? hs)
   unfold shQ
   generalize Bb l s.depth = c at *
   have a1 := Dh (a := n) (b := (c : Int)) (A := 67108864 * Q) (B := 20) (by omega) (by omega)
   have a2 := Dh (a := ptW s) (b := d) (A := 67108864) (B := P) (by omega) (by omega)
   have a3 := Dh (a := d) (b := (c : Int)) (A := P) (B := 20) (by omega) (by omega)
   have a4 := Vn (a := d) (b := (c : Int)) (by omega) (by omega)
   exact ⟨n * c + ptW s * d, d * c, L2 (by omega) (by omega), by omega, by omega, by omega, by omega⟩
  ·exact ⟨n, d, rfl, by omega, by omega, by omega, by omega⟩
theorem Nv {l : List RoofR} {x : RoofR} (hx : x ∈ l) (hl : l.length <= 20) {S : List SetR} (h : ∀ s ∈ S, 0 <= ptW s /\ ptW s <= 67108864) (h5 : S.length <= 5) {k : Nat} (hk : k <= S.length) : Fits (brQ l (S.take k) x) := by
 obtain ⟨n, d, e, h1, h2, h3, h4⟩ := Nw hx hl h k hk
 rw [e]
 have hp : (20 : Int) ^ k <= 3200000 := by
  have : k = 0 \/ k = 1 \/ k = 2 \/ k = 3 \/ k = 4 \/ k = 5 := by omega
  rcases this with e | e | e | e | e | e <;> rw [e] <;> decide
 have hp0 : (1 : Int) <= 20 ^ k := Int.pow_pos (by decide)
 have := Dh (a := (k : Int)) (b := 67108864 * 20 ^ k) (A := 5) (B := 67108864 * 3200000) (by omega) (by omega)
 exact Gs (by omega) (by omega) (by omega) (by omega)
def hwN (h : HouseR) : List ByteArray := [⟨#[104, 111, 117, 115, 101]⟩, h.name, Ad h.height]
def hwX (s : SetR) : ByteArray := if G9 s then ⟨#[104, 111, 108, 100, 115]⟩ else ⟨#[115, 108, 105, 112, 115]⟩
def hwS (s : SetR) : List ByteArray := [⟨#[115, 101, 116]⟩, s.name, ⟨#[100, 101, 112, 116, 104]⟩, Ad s.depth, ⟨#[119, 101, 105, 103, 104, 116]⟩, Ad (wtS s), ⟨#[105, 109, 98, 97, 108, 97, 110, 99, 101]⟩, Ad (D0 s), hwX s]
def hwB (h : HouseR) (x : RoofR) : List ByteArray := [⟨#[98, 101, 97, 109]⟩, x.name, ⟨#[98, 101, 97, 114, 115]⟩, Du (brQ h.roofs h.sets x), ⟨#[111, 102]⟩, Ad x.most]
def Er (h : HouseR) : Prop := (∀ s ∈ h.sets, ptW s <= 67108864) /\ ∀ s ∈ h.sets, 0 < Bb h.roofs s.depth
noncomputable instance instBrOk (h : HouseR) : Decidable (Er h) := Classical.propDecidable _
def Bi (h : HouseR) (i : Nat) : Int := (h.sets[i]?.map SetR.depth).getD 0
def wsI (h : HouseR) (i : Nat) : List ByteArray := (h.sets[i]?.map hwS).getD []
def hT1 (h : HouseR) (l : List Nat) : List UInt8 := bytesOf (hwN h :: l.map (wsI h))
def hT2 (h : HouseR) (l : List Nat) (r : List RoofR) : List UInt8 := hT1 h l ++ bytesOf (r.map (hwB h))
noncomputable def hLs (h : HouseR) : List (List ByteArray) := (hwN h :: (An (Bi h) h.sets.length).map (wsI h)) ++ if Er h then h.roofs.map (hwB h) else []
noncomputable def hTx (h : HouseR) : List UInt8 := bytesOf (hLs h)
theorem Ud {h : HouseR} (b : Er h) : hTx h = hT2 h (An (Bi h) h.sets.length) h.roofs := by
 unfold hTx hLs hT2 hT1
 rw [if_pos b, Dr]
theorem Vb {h : HouseR} (b : ¬ Er h) : hTx h = hT1 h (An (Bi h) h.sets.length) := by
 unfold hTx hLs hT1
 rw [if_neg b, List.append_nil]
theorem Ub (h : HouseR) : hT1 h [] = By (hwN h) := by simp [hT1, bytesOf]
theorem Sw {h : HouseR} {l : List Nat} {k i : Nat} {s : SetR} (hx : l[k]? = some i) (hs : h.sets[i]? = some s) : hT1 h (l.take (k + 1)) = hT1 h (l.take k) ++ By (hwS s) := by
 unfold hT1
 have : wsI h i = hwS s := by unfold wsI;rw [hs];rfl
 rw [Ac hx, List.map_append, <- List.cons_append, Dr, List.map_cons, List.map_nil, Kn, this]
theorem Uc (h : HouseR) (l : List Nat) : hT2 h l [] = hT1 h l := by simp [hT2, bytesOf]
theorem Sx {h : HouseR} {l : List Nat} {r : List RoofR} {k : Nat} {x : RoofR} (hx : r[k]? = some x) : hT2 h l (r.take (k + 1)) = hT2 h l (r.take k) ++ By (hwB h x) := by
 unfold hT2
 rw [Ac hx, List.map_append, Dr, List.map_cons, List.map_nil, Kn, List.append_assoc]
/-! ### Shapes -/
theorem Vx (L : List UInt8) (a b c : ByteArray) : L ++ a.data.toList ++ (⟨#[32]⟩ : ByteArray).data.toList ++ b.data.toList ++ (⟨#[32]⟩ : ByteArray).data.toList ++ c.data.toList ++ (⟨#[10]⟩ : ByteArray).data.toList = L ++ By [a, b, c] := by
 simp [By, Lib.join, List.intercalate]
/-! ### Sizes;clean words -/
theorem T8 {ws : List ByteArray} (h1 : ws.length <= 9) (h2 : ∀ w ∈ ws, w.size <= 60) : (By ws).length <= 550 := by
 have := O7 (B := 60) [32] (ws.map (·.data.toList)) fun w hw => by
  obtain ⟨x, hx, rfl⟩ := List.mem_map.1 hw
  have := h2 x hx
  rwa [Ci]
 unfold By
 rw [List.length_append]
 rw [List.length_map] at this
 simp only [List.length_cons, List.length_nil] at this ⊢
 omega
theorem F8 : ∀ (L : List (List ByteArray)), (∀ ws ∈ L, ws.length <= 9 /\ ∀ w ∈ ws, w.size <= 60) -> (bytesOf L).length <= L.length * 550
 | [], _ => by simp [bytesOf]
 | ws :: L, h => by
  obtain ⟨a1, a2⟩ := h ws (by simp)
  have h1 := T8 a1 a2
  have h2 := F8 L fun x hx => h x (by simp [hx])
  have e : bytesOf (ws :: L) = By ws ++ bytesOf L := rfl
  rw [e, List.length_append, List.length_cons, Nat.succ_mul]
  omega
theorem Dn {s : ByteArray} (h : B7 s = true) : s.size <= 20 := by
 simp only [B7, Bool.and_eq_true, decide_eq_true_eq] at h
 have := h.1.1.2
 omega
theorem Ct {s : SetR} (h : Bj s) : 0 <= wtS s /\ wtS s <= 1140850688 := by
 have h1 := Fl h
 have h2 := Gx h s.items.length
 rw [List.take_length] at h2
 unfold wtS
 omega
theorem H4 {s : SetR} (h : Bj s) : -1048576 <= ndS s /\ ndS s <= 2281701376 := by
 have h1 := Ct h
 obtain ⟨_, _, _, _, _, _, _, _, _, h8, h9, _⟩ := h
 have := Dh (a := wtS s) (b := s.purchase) (A := 1140850688) (B := 2) (by omega) (by omega)
 unfold ndS
 omega
theorem Ei {s : SetR} (h : Bj s) : -504365056 <= D0 s /\ D0 s <= 2281701376 := by
 have h1 := H4 h
 have h2 := Dk h s.bricks.length
 rw [List.take_length] at h2
 unfold D0
 omega
theorem H7 {s : SetR} (h : Bj s) : 0 <= ptW s /\ ptW s <= 1645215744 := by
 have h1 := Ct h
 have h2 := Dk h s.bricks.length
 rw [List.take_length] at h2
 obtain ⟨_, _, _, _, _, _, _, _, _, h8, h9, _⟩ := h
 unfold ptW
 omega
theorem Qt {h : HouseR} (hp : B0 h) : (hwN h).length <= 9 /\ ∀ w ∈ hwN h, w.size <= 60 := by
 have h1 := Dn hp.1
 have h2 := B6 (n := h.height) (by have := hp.2.1;omega) (by have := hp.2.2.1;omega)
 refine ⟨by simp [hwN], fun w hw => ?_⟩
 simp only [hwN, List.mem_cons, List.not_mem_nil, or_false] at hw
 rcases hw with rfl | rfl | rfl
 ·decide
 ·omega
 ·omega
theorem T0 (s : SetR) : (hwX s).size = 5 := by
 unfold hwX
 split <;> rfl
theorem Qv {s : SetR} (hp : Bj s) : (hwS s).length <= 9 /\ ∀ w ∈ hwS s, w.size <= 60 := by
 have h1 := Dn hp.1
 have h2 := B6 (n := s.depth) (by have := hp.2.1;omega) (by have := hp.2.1;omega)
 have h3 := B6 (n := wtS s) (by have := Ct hp;omega) (by have := Ct hp;omega)
 have h4 := B6 (n := D0 s) (by have := Ei hp;omega) (by have := Ei hp;omega)
 have h5 := T0 s
 refine ⟨by simp [hwS], fun w hw => ?_⟩
 simp only [hwS, List.mem_cons, List.not_mem_nil, or_false] at hw
 rcases hw with rfl | rfl | rfl | rfl | rfl | rfl | rfl | rfl | rfl
 ·decide
 ·omega
 ·decide
 ·omega
 ·decide
 ·omega
 ·decide
 ·omega
 ·omega
theorem Qr {h : HouseR} {x : RoofR} (hp : Fe x) (hf : Fits (brQ h.roofs h.sets x)) : (hwB h x).length <= 9 /\ ∀ w ∈ hwB h x, w.size <= 60 := by
 have h1 := Dn hp.1
 have h2 := B6 (n := x.most) (by have := hp.2.2.2.2;omega) (by have := hp.2.2.2.2;omega)
 have h3 := Jv hf
 refine ⟨by simp [hwB], fun w hw => ?_⟩
 simp only [hwB, List.mem_cons, List.not_mem_nil, or_false] at hw
 rcases hw with rfl | rfl | rfl | rfl | rfl | rfl
 ·decide
 ·omega
 ·decide
 ·omega
 ·decide
 ·omega
theorem Gp {h : HouseR} (hp : B0 h) (b : Er h) (h5 : h.sets.length <= 5) {x : RoofR} (hx : x ∈ h.roofs) {k : Nat} (hk : k <= h.sets.length) : Fits (brQ h.roofs (h.sets.take k) x) := by
 refine Nv hx hp.2.2.2.2.1.1 (fun s hs => ⟨(H7 (hp.2.2.2.2.2.1 s hs).1).1, b.1 s hs⟩) h5 hk
theorem V9 {h : HouseR} (hp : B0 h) (h5 : h.sets.length <= 5) : ∀ ws ∈ hLs h, ws.length <= 9 /\ ∀ w ∈ ws, w.size <= 60 := by
 intro ws hw
 unfold hLs at hw
 rcases List.mem_append.1 hw with hw | hw
 ·rcases List.mem_cons.1 hw with rfl | hw
  ·exact Qt hp
  ·obtain ⟨i, hi, rfl⟩ := List.mem_map.1 hw
   obtain ⟨s, hs⟩ := A7 (ordP_mem.1 hi)
   have : wsI h i = hwS s := by unfold wsI;rw [hs];rfl
   rw [this]
   exact Qv (hp.2.2.2.2.2.1 s (List.mem_of_getElem? hs)).1
 ·split at hw
  ·rename_i b
   obtain ⟨x, hx, rfl⟩ := List.mem_map.1 hw
   have := Gp hp b h5 hx (k := h.sets.length) (Nat.le_refl _)
   rw [List.take_length] at this
   exact Qr (hp.2.2.2.2.1.2.1 x hx) this
  ·cases hw
theorem Qn {h : HouseR} (hp : B0 h) {l : List Nat} (hl : ∀ i ∈ l, i < h.sets.length) : (hT1 h l).length <= (l.length + 1) * 550 := by
 have := F8 (hwN h :: l.map (wsI h)) fun ws hw => by
  rcases List.mem_cons.1 hw with rfl | hw
  ·exact Qt hp
  ·obtain ⟨i, hi, rfl⟩ := List.mem_map.1 hw
   obtain ⟨s, hs⟩ := A7 (hl i hi)
   have : wsI h i = hwS s := by unfold wsI;rw [hs];rfl
   rw [this]
   exact Qv (hp.2.2.2.2.2.1 s (List.mem_of_getElem? hs)).1
 rwa [List.length_cons, List.length_map] at this
theorem Va {h : HouseR} (hp : B0 h) (b : Er h) (h5 : h.sets.length <= 5) {l : List Nat} (hl : ∀ i ∈ l, i < h.sets.length) {r : List RoofR} (hr : ∀ x ∈ r, x ∈ h.roofs) : (hT2 h l r).length <= (l.length + 1) * 550 + r.length * 550 := by
 have h1 := Qn hp hl
 have h2 := F8 (r.map (hwB h)) fun ws hw => by
  obtain ⟨x, hx, rfl⟩ := List.mem_map.1 hw
  have := Gp hp b h5 (hr x hx) (k := h.sets.length) (Nat.le_refl _)
  rw [List.take_length] at this
  exact Qr (hp.2.2.2.2.1.2.1 x (hr x hx)) this
 rw [List.length_map] at h2
 unfold hT2
 rw [List.length_append]
 omega
theorem La {c : UInt8} (hc : c.toNat < 45) (q : Rat) : c ∉ (Du q).data.toList := by
 unfold Du
 split
 ·exact F0 hc _
 ·rw [Kl, Kl, List.mem_append, List.mem_append]
  rintro ((h | h) | h)
  ·have := F0 hc q.num;exact this (by simpa [Ad] using h)
  ·obtain rfl : c = 47 := by simpa using h
   exact absurd hc (by decide)
  ·have := F0 hc (q.den : Int);exact this (by simpa [Ad] using h)
theorem Ih {s : ByteArray} (h : B7 s = true) : (32 : UInt8) ∉ s.data.toList /\ (10 : UInt8) ∉ s.data.toList := ⟨Mp h (by decide), Mp h (by decide)⟩
theorem Ez (n : Int) : (32 : UInt8) ∉ (Ad n).data.toList /\ (10 : UInt8) ∉ (Ad n).data.toList := ⟨F0 (by decide) _, F0 (by decide) _⟩
theorem Qs {h : HouseR} (hp : B0 h) : Eu (hwN h) := by
 refine ⟨by simp [hwN], fun w hw => ?_⟩
 simp only [hwN, List.mem_cons, List.not_mem_nil, or_false] at hw
 rcases hw with rfl | rfl | rfl
 ·decide
 ·exact Ih hp.1
 ·exact Ez _
theorem Qu {s : SetR} (hp : Bj s) : Eu (hwS s) := by
 refine ⟨by simp [hwS], fun w hw => ?_⟩
 simp only [hwS, List.mem_cons, List.not_mem_nil, or_false] at hw
 rcases hw with rfl | rfl | rfl | rfl | rfl | rfl | rfl | rfl | rfl
 ·decide
 ·exact Ih hp.1
 ·decide
 ·exact Ez _
 ·decide
 ·exact Ez _
 ·decide
 ·exact Ez _
 ·unfold hwX
  split <;> decide
theorem Qq {h : HouseR} {x : RoofR} (hp : Fe x) : Eu (hwB h x) := by
 refine ⟨by simp [hwB], fun w hw => ?_⟩
 simp only [hwB, List.mem_cons, List.not_mem_nil, or_false] at hw
 rcases hw with rfl | rfl | rfl | rfl | rfl | rfl
 ·decide
 ·exact Ih hp.1
 ·decide
 ·exact ⟨La (by decide) _, La (by decide) _⟩
 ·decide
 ·exact Ez _
theorem Qm {h : HouseR} (hp : B0 h) : ∀ ws ∈ hLs h, Eu ws := by
 intro ws hw
 unfold hLs at hw
 rcases List.mem_append.1 hw with hw | hw
 ·rcases List.mem_cons.1 hw with rfl | hw
  ·exact Qs hp
  ·obtain ⟨i, hi, rfl⟩ := List.mem_map.1 hw
   obtain ⟨s, hs⟩ := A7 (ordP_mem.1 hi)
   have : wsI h i = hwS s := by unfold wsI;rw [hs];rfl
   rw [this]
   exact Qu (hp.2.2.2.2.2.1 s (List.mem_of_getElem? hs)).1
 ·split at hw
  ·obtain ⟨x, hx, rfl⟩ := List.mem_map.1 hw
   exact Qq (hp.2.2.2.2.1.2.1 x hx)
  ·cases hw
end Go.Proofs.YtcfjofhapbkmfaaGreatDoor
