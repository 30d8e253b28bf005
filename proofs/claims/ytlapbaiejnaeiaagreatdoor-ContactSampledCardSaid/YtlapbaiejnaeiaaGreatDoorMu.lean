/- Lemmas of the proof. -/
import Derived.Test.YtlapbaiejnaeiaaGreatDoorMm
import Derived.Test.YtlapbaiejnaeiaaGreatDoorMc
import Derived.Test.YtlapbaiejnaeiaaGreatDoorRows
import Derived.ProofKit
import Derived.OpenShut
import Derived.Deep.DeepHandedRow
import Derived.Lib.SmallJoins
import Derived.Carry
import Derived.ChangeOld
import Derived.Test.YtlapbaiejnaeiaaGreatDoorOb
import Derived.Test.YtlapbaiejnaeiaaGreatDoorNx
import Derived.Test.YtlapbaiejnaeiaaGreatDoorNq
import Derived.Test.YtlapbaiejnaeiaaGreatDoorNk
set_option linter.all false
namespace Go.Proofs.YtlapbaiejnaeiaaGreatDoor
open Go.RowKit
set_option maxRecDepth 100000 in
theorem Cj {n : Nat} {row : List Lf} (h : B9 Tryz.prog (n + 1) 9 row) : ∃ s : ByteArray, row = [.s s] := by
 unfold B9 at h
 rw [a5o] at h
 obtain ⟨s, rfl, _⟩ := h
 exact ⟨s, rfl⟩
set_option maxRecDepth 100000 in
theorem Ak {n : Nat} {row : List Lf} (h : B9 Tryz.prog (n + 1) 3 row) : ∃ i : Int, row = [.i i] /\ -9223372036854775808 <= i /\ i <= 9223372036854775807 := by
 unfold B9 at h
 rw [a2f] at h
 obtain ⟨i, rfl, h1, h2⟩ := h
 exact ⟨i, rfl, h1, h2⟩
set_option maxRecDepth 100000 in
theorem Em {α : Type} {R : α -> List Lf} {p : α -> Prop} {n : Nat} {t e : TypeId} {row : List Lf} (hu : Tryz.prog.underlying t = some (.slice e)) (he : ∀ r, B9 Tryz.prog n e r -> ∃ x, r = R x /\ p x) (h : B9 Tryz.prog (n + 1) t row) :
  ∃ l : List α, row = [.sl (l.map R)] /\ l.length <= 9223372036854775807 /\ l.length * Tryz.prog.bytesOf e <= reachBytes /\ ∀ x ∈ l, p x := by
 unfold B9 at h
 rw [hu] at h
 obtain ⟨rows, rfl, h1, h2, h3⟩ := h
 have key : ∀ rows : List (List Lf), (∀ r ∈ rows, B9 Tryz.prog n e r) -> ∃ l : List α, rows = l.map R /\ ∀ x ∈ l, p x := by
  intro rows
  induction rows with
  | nil => intro _;exact ⟨[], rfl, by simp⟩
  | cons r rows ih =>
   intro h
   obtain ⟨l, rfl, hl⟩ := ih fun r hr => h r (by simp [hr])
   obtain ⟨x, rfl, hx⟩ := he r (h r (by simp))
   exact ⟨x :: l, rfl, by simpa using ⟨hx, hl⟩⟩
 obtain ⟨l, rfl, hl⟩ := key rows h3
 rw [a0a] at h1 h2
 exact ⟨l, rfl, h1, h2, hl⟩
set_option maxRecDepth 100000 in
theorem V0 {n : Nat} {row : List Lf} (h : B9 Tryz.prog (n + 2) 51 row) : ∃ l : List Int, row = [.sl (l.map A3)] /\ l.length <= 9223372036854775807 /\ l.length * Tryz.prog.bytesOf 3 <= reachBytes /\ ∀ x ∈ l, -9223372036854775808 <= x /\ x <= 9223372036854775807 :=
 Em a9n (fun r hr => by obtain ⟨i, rfl, hi⟩ := Ak hr;exact ⟨i, rfl, hi⟩) h
set_option maxRecDepth 100000 in
theorem A5i {n : Nat} {row : List Lf} (h : B9 Tryz.prog (n + 2) 181 row) : ∃ x : ItemR, row = x.row /\ True := by
 unfold B9 at h
 rw [a3p] at h
 obtain ⟨_, _, rfl, h1, _, _, rfl, h2, _, _, rfl, h3, _, _, rfl, h4, _, _, rfl, h5, _, _, rfl, h6, _, _, rfl, h7, rfl⟩ := h
 obtain ⟨a1, rfl⟩ := Cj h1
 obtain ⟨a2, rfl, _⟩ := Ak h2
 obtain ⟨a3, rfl, _⟩ := Ak h3
 obtain ⟨a4, rfl, _⟩ := Ak h4
 obtain ⟨a5, rfl, _⟩ := Ak h5
 obtain ⟨a6, rfl, _⟩ := Ak h6
 obtain ⟨a7, rfl, _⟩ := Ak h7
 exact ⟨⟨a1, a2, a3, a4, a5, a6, a7⟩, rfl, trivial⟩
set_option maxRecDepth 100000 in
theorem A34 {n : Nat} {row : List Lf} (h : B9 Tryz.prog (n + 2) 183 row) : ∃ x : BrickR, row = x.row /\ True := by
 unfold B9 at h
 rw [a7q] at h
 obtain ⟨_, _, rfl, h1, _, _, rfl, h2, _, _, rfl, h3, rfl⟩ := h
 obtain ⟨a1, rfl⟩ := Cj h1
 obtain ⟨a2, rfl, _⟩ := Ak h2
 obtain ⟨a3, rfl, _⟩ := Ak h3
 exact ⟨⟨a1, a2, a3⟩, rfl, trivial⟩
set_option maxRecDepth 100000 in
theorem A5l {n : Nat} {row : List Lf} (h : B9 Tryz.prog (n + 2) 130 row) : ∃ x : RoofR, row = x.row /\ True := by
 unfold B9 at h
 rw [a6h] at h
 obtain ⟨_, _, rfl, h1, _, _, rfl, h2, _, _, rfl, h3, _, _, rfl, h4, rfl⟩ := h
 obtain ⟨a1, rfl⟩ := Cj h1
 obtain ⟨a2, rfl, _⟩ := Ak h2
 obtain ⟨a3, rfl, _⟩ := Ak h3
 obtain ⟨a4, rfl, _⟩ := Ak h4
 exact ⟨⟨a1, a2, a3, a4⟩, rfl, trivial⟩
set_option maxRecDepth 100000 in
theorem A5j {n : Nat} {row : List Lf} (h : B9 Tryz.prog (n + 2) 135 row) : ∃ x : MoveR, row = x.row /\ True := by
 unfold B9 at h
 rw [a4h] at h
 obtain ⟨_, _, rfl, h1, _, _, rfl, h2, _, _, rfl, h3, _, _, rfl, h4, _, _, rfl, h5, rfl⟩ := h
 obtain ⟨a1, rfl⟩ := Cj h1
 obtain ⟨a2, rfl, _⟩ := Ak h2
 obtain ⟨a3, rfl, _⟩ := Ak h3
 obtain ⟨a4, rfl, _⟩ := Ak h4
 obtain ⟨a5, rfl, _⟩ := Ak h5
 exact ⟨⟨a1, a2, a3, a4, a5⟩, rfl, trivial⟩
set_option maxRecDepth 100000 in
theorem A5k {n : Nat} {row : List Lf} (h : B9 Tryz.prog (n + 2) 99 row) : ∃ x : ByteArray × ByteArray, row = A8 x /\ True := by
 unfold B9 at h
 rw [Tryz.underlying99] at h
 obtain ⟨_, _, rfl, h1, _, _, rfl, h2, rfl⟩ := h
 obtain ⟨a1, rfl⟩ := Cj h1
 obtain ⟨a2, rfl⟩ := Cj h2
 exact ⟨(a1, a2), rfl, trivial⟩
set_option maxRecDepth 100000 in
theorem A9b {n : Nat} {row : List Lf} (h : B9 Tryz.prog (n + 4) 105 row) : ∃ x : SetR, row = x.row /\ x.fits := by
 unfold B9 at h
 rw [a2a] at h
 obtain ⟨_, _, rfl, h1, _, _, rfl, h2, _, _, rfl, h3, _, _, rfl, h4, _, _, rfl, h5, _, _, rfl, h6, _, _, rfl, h7, _, _, rfl, h8, _, _, rfl, h9, _, _, rfl, h10, _, _, rfl, h11, _, _, rfl, h12, _, _, rfl, h13, rfl⟩ := h
 obtain ⟨a1, rfl⟩ := Cj h1
 obtain ⟨a2, rfl, _⟩ := Ak h2
 obtain ⟨a3, rfl, _⟩ := Ak h3
 obtain ⟨a4, rfl, _⟩ := Ak h4
 obtain ⟨a5, rfl, _⟩ := Ak h5
 obtain ⟨a6, rfl, b6, _⟩ := V0 h6
 obtain ⟨a7, rfl, _⟩ := Ak h7
 obtain ⟨a8, rfl, _⟩ := Ak h8
 obtain ⟨a9, rfl, _⟩ := Ak h9
 obtain ⟨a10, rfl, _⟩ := Ak h10
 obtain ⟨a11, rfl, _⟩ := Ak h11
 obtain ⟨a12, rfl, b12, _⟩ := Em b3q (fun r => A5i) h12
 obtain ⟨a13, rfl, b13, _⟩ := Em b3r (fun r => A34) h13
 exact ⟨⟨a1, a2, a3, a4, a5, a6, a7, a8, a9, a10, a11, a12, a13⟩, rfl, b6, b12, b13⟩
set_option maxRecDepth 100000 in
theorem A35 {n : Nat} {row : List Lf} (h : B9 Tryz.prog (n + 6) 46 row) : ∃ x : HouseR, row = x.row /\ x.fits := by
 unfold B9 at h
 rw [a4s] at h
 obtain ⟨_, _, rfl, h1, _, _, rfl, h2, _, _, rfl, h3, _, _, rfl, h4, rfl⟩ := h
 obtain ⟨a1, rfl⟩ := Cj h1
 obtain ⟨a2, rfl, _⟩ := Ak h2
 obtain ⟨a3, rfl, b3, _, c3⟩ := Em Tryz.underlying43 (fun r => A9b) h3
 obtain ⟨a4, rfl, b4, _⟩ := Em Tryz.underlying44 (fun r => A5l) h4
 exact ⟨⟨a1, a2, a3, a4⟩, rfl, b3, b4, c3⟩
theorem A54 : Tryz.prog.bytesOf 135 = 48 := by kernel_rfl
set_option maxRecDepth 100000 in
theorem A9a {n : Nat} {row : List Lf} (h : B9 Tryz.prog (n + 4) 133 row) : ∃ x : CueR, row = x.row /\ x.moves.length <= 140737488355328 := by
 unfold B9 at h
 rw [a3o] at h
 obtain ⟨_, _, rfl, h1, _, _, rfl, h2, _, _, rfl, h3, _, _, rfl, h4, _, _, rfl, h5, _, _, rfl, h6, _, _, rfl, h7, rfl⟩ := h
 obtain ⟨a1, rfl⟩ := Cj h1
 obtain ⟨a2, rfl⟩ := Cj h2
 obtain ⟨a3, rfl, _⟩ := Ak h3
 obtain ⟨a4, rfl, _⟩ := Ak h4
 obtain ⟨a5, rfl, b5, c5, _⟩ := Em b3s (fun r => A5j) h5
 obtain ⟨a6, rfl, _⟩ := Ak h6
 obtain ⟨a7, rfl, _⟩ := Ak h7
 rw [A54] at c5
 exact ⟨⟨a1, a2, a3, a4, a5, a6, a7⟩, rfl, by show a5.length <= _;simp only [reachBytes] at c5;omega⟩
set_option maxRecDepth 100000 in
theorem A36 {n : Nat} {row : List Lf} (h : B9 Tryz.prog (n + 6) 50 row) : ∃ x : SheetR, row = x.row /\ x.fits := by
 unfold B9 at h
 rw [a6n] at h
 obtain ⟨_, _, rfl, h1, _, _, rfl, h2, rfl⟩ := h
 obtain ⟨a1, rfl, b1, _, c1⟩ := Em Tryz.underlying47 (fun r => A9a) h1
 obtain ⟨a2, rfl, b2, _⟩ := Em Tryz.underlying48 (fun r => A5k) h2
 exact ⟨⟨a1, a2⟩, rfl, b1, b2, c1⟩
end Go.Proofs.YtlapbaiejnaeiaaGreatDoor
namespace Go.Proofs.YtlapbaiejnaeiaaGreatDoor
open Go.ChangeShapes Go.WideShapes Go.ChangeAt Go.RowKit Go.Joins
theorem own : ownKnob Tryz.prog.godebug = none := by kernel_rfl
theorem Lp : laidOutB Tryz.prog = true := by kernel_rfl
abbrev noL : Nat -> Prop := fun _ => False
section
variable {H : Type} {enc : TypeId × Value -> H}
theorem Is {W : World} {t : TypeId} {v : Value} {d : DataW H} {p : List MemPlace} (h : DataW.Trod enc Tryz.prog W 0 (fun _ => true) true t v d p) : ∀ x ∈ p, x.block < W.heap.size := by
 obtain ⟨m, hm⟩ := h;exact DataW.trod_lt m _ _ _ hm
theorem A24 {W : World} {row : List Lf} {cs : Array Value} (hl : row.length = cs.toList.length) (h : RowRel W row cs.toList 0) : RelV W noL As (A2 row) (.agg cs) := by
 have key := RelV.agg (w := W) (L := noL) (ρ := As) (row.map .lf) cs.toList (by simpa using hl) fun i x v hx hv => by
  rw [a0e] at hx
  cases e : row[i]? with
  | none => rw [e] at hx;cases hx
  | some y =>
   rw [e] at hx
   simp only [a1b, a0f] at hx
   subst hx
   exact .lf _ _ ((h i y v e (by rw [a1q];exact hv)).iff fun k => ⟨False.elim, fun hf => (Do noL k).1 hf⟩)
 simpa using key
set_option maxRecDepth 100000 in
theorem Acy : okT Tryz.prog 8 46 = true := by kernel_rfl
theorem Acz : okT Tryz.prog 8 50 = true := by kernel_rfl
theorem Aer : okT Tryz.prog 8 51 = true := by kernel_rfl
set_option maxRecDepth 100000 in
theorem A3s {W : World} {base : Nat} {v : Value} {d : DataW H} {p : List MemPlace} (hv : Value.okWide Tryz.prog W .any base 46 v) (h : DataW.Trod enc Tryz.prog W 0 (fun _ => true) true 46 v d p) (hw : ((d.weights Tryz.prog 46).all (· <= reachBytes)) = true) : ∃ x : HouseR, x.fits /\ RelV W noL As (A2 x.row) v := by
 obtain ⟨fuel, hf⟩ := h
 unfold Value.okWide at hv
 rw [a4s] at hv
 obtain ⟨cs, rfl, _, _⟩ := hv
 obtain ⟨row, c1, c2, c3⟩ := Hp 8 fuel _ _ _ Acy hf hw
 obtain ⟨x, rfl, hx⟩ := A35 (n := 2) c1
 exact ⟨x, hx, A24 c2 c3⟩
set_option maxRecDepth 100000 in
theorem A3u {W : World} {base : Nat} {v : Value} {d : DataW H} {p : List MemPlace} (hv : Value.okWide Tryz.prog W .any base 50 v) (h : DataW.Trod enc Tryz.prog W 0 (fun _ => true) true 50 v d p) (hw : ((d.weights Tryz.prog 50).all (· <= reachBytes)) = true) : ∃ x : SheetR, x.fits /\ RelV W noL As (A2 x.row) v := by
 obtain ⟨fuel, hf⟩ := h
 unfold Value.okWide at hv
 rw [a6n] at hv
 obtain ⟨cs, rfl, _, _⟩ := hv
 obtain ⟨row, c1, c2, c3⟩ := Hp 8 fuel _ _ _ Acz hf hw
 obtain ⟨x, rfl, hx⟩ := A36 (n := 2) c1
 exact ⟨x, hx, A24 c2 c3⟩
end
section
variable {H : Type} {enc : TypeId × Value -> H}
end
theorem A92 : Tryz.prog.bytesOf 3 = 8 := by kernel_rfl
section
variable {H : Type} {enc : TypeId × Value -> H}
set_option maxRecDepth 100000 in
theorem A3t {W : World} {base : Nat} {v : Value} {d : DataW H} {p : List MemPlace} (hv : Value.okWide Tryz.prog W .any base 51 v) (h : DataW.Trod enc Tryz.prog W 0 (fun _ => true) true 51 v d p) (hw : ((d.weights Tryz.prog 51).all (· <= reachBytes)) = true) : ∃ l : List Int, l.length <= 1000000000000000 /\ (∀ x ∈ l, -9223372036854775808 <= x /\ x <= 9223372036854775807) /\ RelV W noL As (.sl (l.map A3)) v := by
 obtain ⟨a, len, cap, rfl⟩ := okWide_slice a9n hv
 obtain ⟨fuel, hf⟩ := h
 obtain ⟨row, c1, c2, c3⟩ := Hp 8 fuel _ _ _ Aer hf hw
 obtain ⟨l, rfl, h1, hb, h2⟩ := V0 (n := 6) c1
 rw [A92] at hb
 have hr : reachBytes = 140737488351232 := rfl
 refine ⟨l, by omega, h2, .lf _ _ ((c3 0 _ _ rfl (by simp [Value.cells])).iff fun k => ⟨False.elim, fun hf => (Do noL k).1 hf⟩)⟩
end
end Go.Proofs.YtlapbaiejnaeiaaGreatDoor
namespace Go.Proofs.YtlapbaiejnaeiaaGreatDoor
open Go Go.RowKit
section
variable {P : Program} {N : Nat} {ops : Array Oper} {m : Option Nat} {K : Tm -> AH -> Prop} {tm : Tm} {H : AH} {rest : List Oper} {ty : TypeId} {pos : String} {af : Array Edge} {d : Nat} {t : TypeId} {x y : Operand}
end
theorem G7 (r : Rat) {e : Int} (h : e = 0 \/ e = 5) : kE r e = 0 \/ kE r e = 5 := by
 rcases h with rfl | rfl
 ·by_cases hf : Fits r
  ·exact .inl (Dz hf)
  ·exact .inr (Ef hf)
 ·exact .inr (B8 r)
theorem A2k (p : PcQ) (u : Rat) {e : Int} (h : e = 0 \/ e = 5) : I2 p u e = 0 \/ I2 p u e = 5 := G7 _ (G7 _ (G7 _ (G7 _ h)))
theorem Add (p : PcQ) (u : Rat) {e : Int} (h : e = 0 \/ e = 5) : Kb p u e = 0 \/ Kb p u e = 5 := G7 _ (G7 _ (G7 _ h))
theorem A4s (l : List PcQ) (t : Rat) : atE l t 0 = 0 \/ atE l t 0 = 5 := by
 unfold atE
 split
 ·exact .inl rfl
 ·exact A2k _ _ (G7 _ (.inl rfl))
theorem Ac3 (l : List PcQ) (t : Rat) : Nu l t 0 = 0 \/ Nu l t 0 = 5 := by
 unfold Nu
 split
 ·exact .inl rfl
 ·exact Add _ _ (G7 _ (.inl rfl))
theorem Nt (l : List PcQ) (t : Rat) : Fe l t 5 = 5 := by
 unfold Fe
 split
 ·rfl
 ·rw [B8, P7, Kv]
theorem A0z (l : List PcQ) (t : Rat) : Fe l t 0 = if atE l t 0 = 0 then Nu l t 0 else 5 := by
 unfold Fe atE Nu
 by_cases h : pcI l t < 0
 ·rw [if_pos h, if_pos h, if_pos h, if_pos rfl]
 ·rw [if_neg h, if_neg h, if_neg h]
  generalize Ad l (pcI l t).toNat = p
  rcases G7 (t - p.f) (.inl rfl) with e0 | e0 <;> rw [e0]
  ·rcases A2k p (kQ (t - p.f)) (.inl rfl) with e1 | e1 <;> rw [e1]
   ·rw [if_pos rfl]
   ·rw [if_neg (by decide), Kv]
  ·rw [P7, Kv, if_neg (by decide)]
theorem P9 (l : List PcQ) (t : Rat) : Fe l t 0 = 0 \/ Fe l t 0 = 5 := by
 rw [A0z]
 split
 ·exact Ac3 l t
 ·exact .inr rfl
def atC (l : List PcQ) (t : Rat) : Rat := if pcI l t < 0 then 0 else (Ad l (pcI l t).toNat).c
theorem Ae8 (l : List PcQ) (t : Rat) : atP l t = ⟨t, atQ l t, atS l t, atC l t⟩ := by
 unfold atP atC
 by_cases h : pcI l t < 0
 ·rw [if_pos h, if_pos h]
  unfold atQ atS
  rw [if_pos h, if_pos h]
 ·rw [if_neg h, if_neg h]
theorem Acg (op : Rat -> Rat -> Rat) (a b : List PcQ) (t : Rat) : jE op a b t 5 = 5 := by simp only [jE, Nt, B8]
theorem Y2 (op : Rat -> Rat -> Rat) (a b : List PcQ) (l : List Rat) : l.foldl (fun e t => jE op a b t e) 5 = 5 := by
 induction l with
 | nil => rfl
 | cons t l ih => rw [a3g, Acg];exact ih
theorem Ab2 (l : List Rat) (t : Rat) : (H9 l t).length <= l.length + 1 := by
 induction l with
 | nil => simp [H9]
 | cons y l ih =>
  unfold H9
  split
  ·simp;omega
  ·split <;> simp
theorem A63 (l m : List Rat) : (l.foldl H9 m).length <= m.length + l.length := by
 induction l generalizing m with
 | nil => simp
 | cons y l ih =>
  have h1 := ih (H9 m y)
  have h2 := Ab2 m y
  rw [a3g, a0i]
  omega
end Go.Proofs.YtlapbaiejnaeiaaGreatDoor
