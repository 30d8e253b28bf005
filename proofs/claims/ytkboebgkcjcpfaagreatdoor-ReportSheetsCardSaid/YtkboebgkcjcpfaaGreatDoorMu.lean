/- Arguments that came in: houses, cues, sheets, lists of integers, as the calculus has them. No conditions but those of each statement. -/
import Derived.Test.YtkboebgkcjcpfaaGreatDoorMm
import Derived.Test.YtkboebgkcjcpfaaGreatDoorMc
import Derived.Test.YtkboebgkcjcpfaaGreatDoorRows
import Derived.ProofKit
import Derived.OpenShut
import Derived.Deep.DeepHandedRow
import Derived.Lib.SmallJoins
import Derived.Carry
import Derived.ChangeOld
set_option linter.unusedSimpArgs false
set_option linter.unusedVariables false
namespace Go.Proofs.YtkboebgkcjcpfaaGreatDoor
open Go.RowKit
set_option maxRecDepth 100000 in
theorem Bt {n : Nat} {row : List Lf} (h : Aw Tryz.prog (n + 1) 9 row) : ∃ s : ByteArray, row = [.s s] := by
 unfold Aw at h
 rw [Tryz.underlying9] at h
 obtain ⟨s, rfl, _⟩ := h
 exact ⟨s, rfl⟩
set_option maxRecDepth 100000 in
theorem Ah {n : Nat} {row : List Lf} (h : Aw Tryz.prog (n + 1) 3 row) : ∃ i : Int, row = [.i i] /\ -9223372036854775808 <= i /\ i <= 9223372036854775807 := by
 unfold Aw at h
 rw [Tryz.underlying3] at h
 obtain ⟨i, rfl, h1, h2⟩ := h
 exact ⟨i, rfl, h1, h2⟩
set_option maxRecDepth 100000 in
theorem Dg {α : Type} {R : α -> List Lf} {p : α -> Prop} {n : Nat} {t e : TypeId} {row : List Lf} (hu : Tryz.prog.underlying t = some (.slice e)) (he : ∀ r, Aw Tryz.prog n e r -> ∃ x, r = R x /\ p x) (h : Aw Tryz.prog (n + 1) t row) :
  ∃ l : List α, row = [.sl (l.map R)] /\ l.length <= 9223372036854775807 /\ l.length * Tryz.prog.bytesOf e <= reachBytes /\ ∀ x ∈ l, p x := by
 unfold Aw at h
 rw [hu] at h
 obtain ⟨rows, rfl, h1, h2, h3⟩ := h
 have key : ∀ rows : List (List Lf), (∀ r ∈ rows, Aw Tryz.prog n e r) -> ∃ l : List α, rows = l.map R /\ ∀ x ∈ l, p x := by
  intro rows
  induction rows with
  | nil => intro _;exact ⟨[], rfl, by simp⟩
  | cons r rows ih =>
   intro h
   obtain ⟨l, rfl, hl⟩ := ih fun r hr => h r (by simp [hr])
   obtain ⟨x, rfl, hx⟩ := he r (h r (by simp))
   exact ⟨x :: l, rfl, by simpa using ⟨hx, hl⟩⟩
 obtain ⟨l, rfl, hl⟩ := key rows h3
 rw [List.length_map] at h1 h2
 exact ⟨l, rfl, h1, h2, hl⟩
set_option maxRecDepth 100000 in
theorem Qd {n : Nat} {row : List Lf} (h : Aw Tryz.prog (n + 2) 30 row) : ∃ l : List Int, row = [.sl (l.map A1)] /\ l.length <= 9223372036854775807 /\ l.length * Tryz.prog.bytesOf 3 <= reachBytes /\ ∀ x ∈ l, -9223372036854775808 <= x /\ x <= 9223372036854775807 :=
 Dg Tryz.underlying30 (fun r hr => by obtain ⟨i, rfl, hi⟩ := Ah hr;exact ⟨i, rfl, hi⟩) h
set_option maxRecDepth 100000 in
theorem Yp {n : Nat} {row : List Lf} (h : Aw Tryz.prog (n + 2) 155 row) : ∃ x : ItemR, row = x.row /\ True := by
 unfold Aw at h
 rw [Tryz.underlying155] at h
 obtain ⟨_, _, rfl, h1, _, _, rfl, h2, _, _, rfl, h3, _, _, rfl, h4, _, _, rfl, h5, _, _, rfl, h6, _, _, rfl, h7, rfl⟩ := h
 obtain ⟨a1, rfl⟩ := Bt h1
 obtain ⟨a2, rfl, _⟩ := Ah h2
 obtain ⟨a3, rfl, _⟩ := Ah h3
 obtain ⟨a4, rfl, _⟩ := Ah h4
 obtain ⟨a5, rfl, _⟩ := Ah h5
 obtain ⟨a6, rfl, _⟩ := Ah h6
 obtain ⟨a7, rfl, _⟩ := Ah h7
 exact ⟨⟨a1, a2, a3, a4, a5, a6, a7⟩, rfl, trivial⟩
set_option maxRecDepth 100000 in
theorem Wm {n : Nat} {row : List Lf} (h : Aw Tryz.prog (n + 2) 157 row) : ∃ x : BrickR, row = x.row /\ True := by
 unfold Aw at h
 rw [Tryz.underlying157] at h
 obtain ⟨_, _, rfl, h1, _, _, rfl, h2, _, _, rfl, h3, rfl⟩ := h
 obtain ⟨a1, rfl⟩ := Bt h1
 obtain ⟨a2, rfl, _⟩ := Ah h2
 obtain ⟨a3, rfl, _⟩ := Ah h3
 exact ⟨⟨a1, a2, a3⟩, rfl, trivial⟩
set_option maxRecDepth 100000 in
theorem Ys {n : Nat} {row : List Lf} (h : Aw Tryz.prog (n + 2) 114 row) : ∃ x : RoofR, row = x.row /\ True := by
 unfold Aw at h
 rw [Tryz.underlying114] at h
 obtain ⟨_, _, rfl, h1, _, _, rfl, h2, _, _, rfl, h3, _, _, rfl, h4, rfl⟩ := h
 obtain ⟨a1, rfl⟩ := Bt h1
 obtain ⟨a2, rfl, _⟩ := Ah h2
 obtain ⟨a3, rfl, _⟩ := Ah h3
 obtain ⟨a4, rfl, _⟩ := Ah h4
 exact ⟨⟨a1, a2, a3, a4⟩, rfl, trivial⟩
set_option maxRecDepth 100000 in
theorem Yq {n : Nat} {row : List Lf} (h : Aw Tryz.prog (n + 2) 116 row) : ∃ x : MoveR, row = x.row /\ True := by
 unfold Aw at h
 rw [Tryz.underlying116] at h
 obtain ⟨_, _, rfl, h1, _, _, rfl, h2, _, _, rfl, h3, _, _, rfl, h4, _, _, rfl, h5, rfl⟩ := h
 obtain ⟨a1, rfl⟩ := Bt h1
 obtain ⟨a2, rfl, _⟩ := Ah h2
 obtain ⟨a3, rfl, _⟩ := Ah h3
 obtain ⟨a4, rfl, _⟩ := Ah h4
 obtain ⟨a5, rfl, _⟩ := Ah h5
 exact ⟨⟨a1, a2, a3, a4, a5⟩, rfl, trivial⟩
set_option maxRecDepth 100000 in
theorem Yr {n : Nat} {row : List Lf} (h : Aw Tryz.prog (n + 2) 117 row) : ∃ x : ByteArray × ByteArray, row = Be x /\ True := by
 unfold Aw at h
 rw [Tryz.underlying117] at h
 obtain ⟨_, _, rfl, h1, _, _, rfl, h2, rfl⟩ := h
 obtain ⟨a1, rfl⟩ := Bt h1
 obtain ⟨a2, rfl⟩ := Bt h2
 exact ⟨(a1, a2), rfl, trivial⟩
set_option maxRecDepth 100000 in
theorem A28 {n : Nat} {row : List Lf} (h : Aw Tryz.prog (n + 4) 112 row) : ∃ x : SetR, row = x.row /\ x.fits := by
 unfold Aw at h
 rw [Tryz.underlying112] at h
 obtain ⟨_, _, rfl, h1, _, _, rfl, h2, _, _, rfl, h3, _, _, rfl, h4, _, _, rfl, h5, _, _, rfl, h6, _, _, rfl, h7, _, _, rfl, h8, _, _, rfl, h9, _, _, rfl, h10, _, _, rfl, h11, _, _, rfl, h12, _, _, rfl, h13, rfl⟩ := h
 obtain ⟨a1, rfl⟩ := Bt h1
 obtain ⟨a2, rfl, _⟩ := Ah h2
 obtain ⟨a3, rfl, _⟩ := Ah h3
 obtain ⟨a4, rfl, _⟩ := Ah h4
 obtain ⟨a5, rfl, _⟩ := Ah h5
 obtain ⟨a6, rfl, b6, _⟩ := Qd h6
 obtain ⟨a7, rfl, _⟩ := Ah h7
 obtain ⟨a8, rfl, _⟩ := Ah h8
 obtain ⟨a9, rfl, _⟩ := Ah h9
 obtain ⟨a10, rfl, _⟩ := Ah h10
 obtain ⟨a11, rfl, _⟩ := Ah h11
 obtain ⟨a12, rfl, b12, _⟩ := Dg Tryz.underlying109 (fun r => Yp) h12
 obtain ⟨a13, rfl, b13, _⟩ := Dg Tryz.underlying110 (fun r => Wm) h13
 exact ⟨⟨a1, a2, a3, a4, a5, a6, a7, a8, a9, a10, a11, a12, a13⟩, rfl, b6, b12, b13⟩
set_option maxRecDepth 100000 in
theorem Wn {n : Nat} {row : List Lf} (h : Aw Tryz.prog (n + 6) 25 row) : ∃ x : HouseR, row = x.row /\ x.fits := by
 unfold Aw at h
 rw [Tryz.underlying25] at h
 obtain ⟨_, _, rfl, h1, _, _, rfl, h2, _, _, rfl, h3, _, _, rfl, h4, rfl⟩ := h
 obtain ⟨a1, rfl⟩ := Bt h1
 obtain ⟨a2, rfl, _⟩ := Ah h2
 obtain ⟨a3, rfl, b3, _, c3⟩ := Dg Tryz.underlying22 (fun r => A28) h3
 obtain ⟨a4, rfl, b4, _⟩ := Dg Tryz.underlying23 (fun r => Ys) h4
 exact ⟨⟨a1, a2, a3, a4⟩, rfl, b3, b4, c3⟩
theorem Yj : Tryz.prog.bytesOf 116 = 48 := by kernel_rfl
set_option maxRecDepth 100000 in
theorem A27 {n : Nat} {row : List Lf} (h : Aw Tryz.prog (n + 4) 79 row) : ∃ x : CueR, row = x.row /\ x.moves.length <= 140737488355328 := by
 unfold Aw at h
 rw [Tryz.underlying79] at h
 obtain ⟨_, _, rfl, h1, _, _, rfl, h2, _, _, rfl, h3, _, _, rfl, h4, _, _, rfl, h5, _, _, rfl, h6, _, _, rfl, h7, rfl⟩ := h
 obtain ⟨a1, rfl⟩ := Bt h1
 obtain ⟨a2, rfl⟩ := Bt h2
 obtain ⟨a3, rfl, _⟩ := Ah h3
 obtain ⟨a4, rfl, _⟩ := Ah h4
 obtain ⟨a5, rfl, b5, c5, _⟩ := Dg Tryz.underlying77 (fun r => Yq) h5
 obtain ⟨a6, rfl, _⟩ := Ah h6
 obtain ⟨a7, rfl, _⟩ := Ah h7
 rw [Yj] at c5
 exact ⟨⟨a1, a2, a3, a4, a5, a6, a7⟩, rfl, by show a5.length <= _;simp only [reachBytes] at c5;omega⟩
set_option maxRecDepth 100000 in
theorem Wo {n : Nat} {row : List Lf} (h : Aw Tryz.prog (n + 6) 29 row) : ∃ x : SheetR, row = x.row /\ x.fits := by
 unfold Aw at h
 rw [Tryz.underlying29] at h
 obtain ⟨_, _, rfl, h1, _, _, rfl, h2, rfl⟩ := h
 obtain ⟨a1, rfl, b1, _, c1⟩ := Dg Tryz.underlying26 (fun r => A27) h1
 obtain ⟨a2, rfl, b2, _⟩ := Dg Tryz.underlying27 (fun r => Yr) h2
 exact ⟨⟨a1, a2⟩, rfl, b1, b2, c1⟩
end Go.Proofs.YtkboebgkcjcpfaaGreatDoor
namespace Go.Proofs.YtkboebgkcjcpfaaGreatDoor
open Go.ChangeShapes Go.WideShapes Go.ChangeAt Go.RowKit Go.Joins
theorem own : ownKnob Tryz.prog.godebug = none := by kernel_rfl
theorem F7 : laidOutB Tryz.prog = true := by kernel_rfl
abbrev noL : Nat -> Prop := fun _ => False
section
variable {H : Type} {enc : TypeId × Value -> H}
theorem Du {W : World} {t : TypeId} {v : Value} {d : DataW H} {p : List MemPlace} (h : DataW.Trod enc Tryz.prog W 0 (fun _ => true) true t v d p) : ∀ x ∈ p, x.block < W.heap.size := by
 obtain ⟨m, hm⟩ := h;exact DataW.trod_lt m _ _ _ hm
theorem Vz {W : World} {row : List Lf} {cs : Array Value} (hl : row.length = cs.toList.length) (h : RowRel W row cs.toList 0) : RelV W noL B0 (A4 row) (.agg cs) := by
 have key := RelV.agg (w := W) (L := noL) (ρ := B0) (row.map .lf) cs.toList (by simpa using hl) fun i x v hx hv => by
  rw [List.getElem?_map] at hx
  cases e : row[i]? with
  | none => rw [e] at hx;cases hx
  | some y =>
   rw [e] at hx
   simp only [Option.map_some, Option.some.injEq] at hx
   subst hx
   exact .lf _ _ ((h i y v e (by rw [Nat.zero_add];exact hv)).iff fun k => ⟨False.elim, fun hf => (Dk noL k).1 hf⟩)
 simpa using key
set_option maxRecDepth 100000 in
theorem A4o : okT Tryz.prog 8 25 = true := by kernel_rfl
theorem A4p : okT Tryz.prog 8 29 = true := by kernel_rfl
theorem A5p : okT Tryz.prog 8 30 = true := by kernel_rfl
set_option maxRecDepth 100000 in
theorem Oh {W : World} {base : Nat} {v : Value} {d : DataW H} {p : List MemPlace} (hv : Value.okWide Tryz.prog W .any base 25 v) (h : DataW.Trod enc Tryz.prog W 0 (fun _ => true) true 25 v d p) (hw : ((d.weights Tryz.prog 25).all (· <= reachBytes)) = true) : ∃ x : HouseR, x.fits /\ RelV W noL B0 (A4 x.row) v := by
 obtain ⟨fuel, hf⟩ := h
 unfold Value.okWide at hv
 rw [Tryz.underlying25] at hv
 obtain ⟨cs, rfl, _, _⟩ := hv
 obtain ⟨row, c1, c2, c3⟩ := Fc 8 fuel _ _ _ A4o hf hw
 obtain ⟨x, rfl, hx⟩ := Wn (n := 2) c1
 exact ⟨x, hx, Vz c2 c3⟩
set_option maxRecDepth 100000 in
theorem Oj {W : World} {base : Nat} {v : Value} {d : DataW H} {p : List MemPlace} (hv : Value.okWide Tryz.prog W .any base 29 v) (h : DataW.Trod enc Tryz.prog W 0 (fun _ => true) true 29 v d p) (hw : ((d.weights Tryz.prog 29).all (· <= reachBytes)) = true) : ∃ x : SheetR, x.fits /\ RelV W noL B0 (A4 x.row) v := by
 obtain ⟨fuel, hf⟩ := h
 unfold Value.okWide at hv
 rw [Tryz.underlying29] at hv
 obtain ⟨cs, rfl, _, _⟩ := hv
 obtain ⟨row, c1, c2, c3⟩ := Fc 8 fuel _ _ _ A4p hf hw
 obtain ⟨x, rfl, hx⟩ := Wo (n := 2) c1
 exact ⟨x, hx, Vz c2 c3⟩
end
section
variable {H : Type} {enc : TypeId × Value -> H}
end
theorem A23 : Tryz.prog.bytesOf 3 = 8 := by kernel_rfl
section
variable {H : Type} {enc : TypeId × Value -> H}
set_option maxRecDepth 100000 in
theorem Oi {W : World} {base : Nat} {v : Value} {d : DataW H} {p : List MemPlace} (hv : Value.okWide Tryz.prog W .any base 30 v) (h : DataW.Trod enc Tryz.prog W 0 (fun _ => true) true 30 v d p) (hw : ((d.weights Tryz.prog 30).all (· <= reachBytes)) = true) : ∃ l : List Int, l.length <= 1000000000000000 /\ (∀ x ∈ l, -9223372036854775808 <= x /\ x <= 9223372036854775807) /\ RelV W noL B0 (.sl (l.map A1)) v := by
 obtain ⟨a, len, cap, rfl⟩ := okWide_slice Tryz.underlying30 hv
 obtain ⟨fuel, hf⟩ := h
 obtain ⟨row, c1, c2, c3⟩ := Fc 8 fuel _ _ _ A5p hf hw
 obtain ⟨l, rfl, h1, hb, h2⟩ := Qd (n := 6) c1
 rw [A23] at hb
 have hr : reachBytes = 140737488351232 := rfl
 refine ⟨l, by omega, h2, .lf _ _ ((c3 0 _ _ rfl (by simp [Value.cells])).iff fun k => ⟨False.elim, fun hf => (Dk noL k).1 hf⟩)⟩
end
end Go.Proofs.YtkboebgkcjcpfaaGreatDoor
