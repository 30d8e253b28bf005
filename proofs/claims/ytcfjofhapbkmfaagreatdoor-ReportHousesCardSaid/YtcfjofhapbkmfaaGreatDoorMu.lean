/- Arguments that came in: houses, cues, sheets, lists of integers, as the calculus has them. No conditions but those of each statement. -/
import Derived.Test.YtcfjofhapbkmfaaGreatDoorMm
import Derived.Test.YtcfjofhapbkmfaaGreatDoorMc
import Derived.Test.YtcfjofhapbkmfaaGreatDoorRows
import Derived.ProofKit
import Derived.OpenShut
import Derived.Deep.DeepHandedRow
import Derived.Lib.SmallJoins
import Derived.Carry
import Derived.ChangeOld
import Derived.Test.YtcfjofhapbkmfaaGreatDoorCards
import Derived.Test.YtcfjofhapbkmfaaGreatDoorTie
import Derived.Test.YtcfjofhapbkmfaaGreatDoorMa
import Derived.Shelf.Vars
import Derived.Stop.LaidErr
import Derived.Test.YtcfjofhapbkmfaaGreatDoorMp
import Derived.Test.YtcfjofhapbkmfaaGreatDoorMn
set_option linter.unusedSimpArgs false
set_option linter.unusedVariables false
namespace Go.Proofs.YtcfjofhapbkmfaaGreatDoor
open Go.RowKit
set_option maxRecDepth 100000 in
theorem Dr {n : Nat} {row : List Lf} (h : B9 Tryz.prog (n + 1) 9 row) : ∃ s : ByteArray, row = [.s s] := by
 unfold B9 at h
 rw [Tryz.underlying9] at h
 obtain ⟨s, rfl, _⟩ := h
 exact ⟨s, rfl⟩
set_option maxRecDepth 100000 in
theorem Av {n : Nat} {row : List Lf} (h : B9 Tryz.prog (n + 1) 3 row) : ∃ i : Int, row = [.i i] /\ -9223372036854775808 <= i /\ i <= 9223372036854775807 := by
 unfold B9 at h
 rw [Tryz.underlying3] at h
 obtain ⟨i, rfl, h1, h2⟩ := h
 exact ⟨i, rfl, h1, h2⟩
set_option maxRecDepth 100000 in
theorem F6 {α : Type} {R : α -> List Lf} {p : α -> Prop} {n : Nat} {t e : TypeId} {row : List Lf} (hu : Tryz.prog.underlying t = some (.slice e)) (he : ∀ r, B9 Tryz.prog n e r -> ∃ x, r = R x /\ p x) (h : B9 Tryz.prog (n + 1) t row) :
  ∃ l : List α, row = [.sl (l.map R)] /\ l.length <= 9223372036854775807 /\ l.length * Tryz.prog.bytesOf e <= reachBytes /\ ∀ x ∈ l, p x := by
 unfold B9 at h
 rw [hu] at h
 obtain ⟨rows, rfl, h1, h2, h3⟩ := h
 have key : ∀ rows : List (List Lf), (∀ r ∈ rows, B9 Tryz.prog n e r) -> ∃ l : List α, rows = l.map R /\ ∀ x ∈ l, p x := by
  intro rows
  induction rows with
  | nil => intro _;exact ⟨[], rfl, by simp⟩
  | cons r rows ih =>
   intro h
   obtain ⟨l, rfl, hl⟩ := ih fun r hr => h r (by simp [hr])
   obtain ⟨x, rfl, hx⟩ := he r (h r (by simp))
   exact ⟨x :: l, rfl, by simpa using ⟨hx, hl⟩⟩
 obtain ⟨l, rfl, hl⟩ := key rows h3
 rw [List.length_map] at h1 h2
 exact ⟨l, rfl, h1, h2, hl⟩
set_option maxRecDepth 100000 in
theorem Ug {n : Nat} {row : List Lf} (h : B9 Tryz.prog (n + 2) 56 row) : ∃ l : List Int, row = [.sl (l.map A8)] /\ l.length <= 9223372036854775807 /\ l.length * Tryz.prog.bytesOf 3 <= reachBytes /\ ∀ x ∈ l, -9223372036854775808 <= x /\ x <= 9223372036854775807 :=
 F6 Tryz.underlying56 (fun r hr => by obtain ⟨i, rfl, hi⟩ := Av hr;exact ⟨i, rfl, hi⟩) h
set_option maxRecDepth 100000 in
theorem Uh {n : Nat} {row : List Lf} (h : B9 Tryz.prog (n + 2) 156 row) : ∃ x : ItemR, row = x.row /\ True := by
 unfold B9 at h
 rw [Tryz.underlying156] at h
 obtain ⟨_, _, rfl, h1, _, _, rfl, h2, _, _, rfl, h3, _, _, rfl, h4, _, _, rfl, h5, _, _, rfl, h6, _, _, rfl, h7, rfl⟩ := h
 obtain ⟨a1, rfl⟩ := Dr h1
 obtain ⟨a2, rfl, _⟩ := Av h2
 obtain ⟨a3, rfl, _⟩ := Av h3
 obtain ⟨a4, rfl, _⟩ := Av h4
 obtain ⟨a5, rfl, _⟩ := Av h5
 obtain ⟨a6, rfl, _⟩ := Av h6
 obtain ⟨a7, rfl, _⟩ := Av h7
 exact ⟨⟨a1, a2, a3, a4, a5, a6, a7⟩, rfl, trivial⟩
set_option maxRecDepth 100000 in
theorem Sk {n : Nat} {row : List Lf} (h : B9 Tryz.prog (n + 2) 112 row) : ∃ x : BrickR, row = x.row /\ True := by
 unfold B9 at h
 rw [Tryz.underlying112] at h
 obtain ⟨_, _, rfl, h1, _, _, rfl, h2, _, _, rfl, h3, rfl⟩ := h
 obtain ⟨a1, rfl⟩ := Dr h1
 obtain ⟨a2, rfl, _⟩ := Av h2
 obtain ⟨a3, rfl, _⟩ := Av h3
 exact ⟨⟨a1, a2, a3⟩, rfl, trivial⟩
set_option maxRecDepth 100000 in
theorem Ui {n : Nat} {row : List Lf} (h : B9 Tryz.prog (n + 2) 69 row) : ∃ x : RoofR, row = x.row /\ True := by
 unfold B9 at h
 rw [Tryz.underlying69] at h
 obtain ⟨_, _, rfl, h1, _, _, rfl, h2, _, _, rfl, h3, _, _, rfl, h4, rfl⟩ := h
 obtain ⟨a1, rfl⟩ := Dr h1
 obtain ⟨a2, rfl, _⟩ := Av h2
 obtain ⟨a3, rfl, _⟩ := Av h3
 obtain ⟨a4, rfl, _⟩ := Av h4
 exact ⟨⟨a1, a2, a3, a4⟩, rfl, trivial⟩
set_option maxRecDepth 100000 in
theorem X7 {n : Nat} {row : List Lf} (h : B9 Tryz.prog (n + 4) 67 row) : ∃ x : SetR, row = x.row /\ x.fits := by
 unfold B9 at h
 rw [Tryz.underlying67] at h
 obtain ⟨_, _, rfl, h1, _, _, rfl, h2, _, _, rfl, h3, _, _, rfl, h4, _, _, rfl, h5, _, _, rfl, h6, _, _, rfl, h7, _, _, rfl, h8, _, _, rfl, h9, _, _, rfl, h10, _, _, rfl, h11, _, _, rfl, h12, _, _, rfl, h13, rfl⟩ := h
 obtain ⟨a1, rfl⟩ := Dr h1
 obtain ⟨a2, rfl, _⟩ := Av h2
 obtain ⟨a3, rfl, _⟩ := Av h3
 obtain ⟨a4, rfl, _⟩ := Av h4
 obtain ⟨a5, rfl, _⟩ := Av h5
 obtain ⟨a6, rfl, b6, _⟩ := Ug h6
 obtain ⟨a7, rfl, _⟩ := Av h7
 obtain ⟨a8, rfl, _⟩ := Av h8
 obtain ⟨a9, rfl, _⟩ := Av h9
 obtain ⟨a10, rfl, _⟩ := Av h10
 obtain ⟨a11, rfl, _⟩ := Av h11
 obtain ⟨a12, rfl, b12, _⟩ := F6 Tryz.underlying64 (fun r => Uh) h12
 obtain ⟨a13, rfl, b13, _⟩ := F6 Tryz.underlying65 (fun r => Sk) h13
 exact ⟨⟨a1, a2, a3, a4, a5, a6, a7, a8, a9, a10, a11, a12, a13⟩, rfl, b6, b12, b13⟩
set_option maxRecDepth 100000 in
theorem Sl {n : Nat} {row : List Lf} (h : B9 Tryz.prog (n + 6) 51 row) : ∃ x : HouseR, row = x.row /\ x.fits := by
 unfold B9 at h
 rw [Tryz.underlying51] at h
 obtain ⟨_, _, rfl, h1, _, _, rfl, h2, _, _, rfl, h3, _, _, rfl, h4, rfl⟩ := h
 obtain ⟨a1, rfl⟩ := Dr h1
 obtain ⟨a2, rfl, _⟩ := Av h2
 obtain ⟨a3, rfl, b3, _, c3⟩ := F6 Tryz.underlying48 (fun r => X7) h3
 obtain ⟨a4, rfl, b4, _⟩ := F6 Tryz.underlying49 (fun r => Ui) h4
 exact ⟨⟨a1, a2, a3, a4⟩, rfl, b3, b4, c3⟩
end Go.Proofs.YtcfjofhapbkmfaaGreatDoor
namespace Go.Proofs.YtcfjofhapbkmfaaGreatDoor
open Go.ChangeShapes Go.WideShapes Go.ChangeAt Go.RowKit Go.Joins
theorem own : ownKnob Tryz.prog.godebug = none := by kernel_rfl
theorem Rt : laidOutB Tryz.prog = true := by kernel_rfl
abbrev noL : Nat -> Prop := fun _ => False
section
variable {H : Type} {enc : TypeId × Value -> H}
theorem Ra {W : World} {t : TypeId} {v : Value} {d : DataW H} {p : List MemPlace} (h : DataW.Trod enc Tryz.prog W 0 (fun _ => true) true t v d p) : ∀ x ∈ p, x.block < W.heap.size := by
 obtain ⟨m, hm⟩ := h;exact DataW.trod_lt m _ _ _ hm
theorem Zq {W : World} {row : List Lf} {cs : Array Value} (hl : row.length = cs.toList.length) (h : RowRel W row cs.toList 0) : RelV W noL An (A6 row) (.agg cs) := by
 have key := RelV.agg (w := W) (L := noL) (ρ := An) (row.map .lf) cs.toList (by simpa using hl) fun i x v hx hv => by
  rw [List.getElem?_map] at hx
  cases e : row[i]? with
  | none => rw [e] at hx;cases hx
  | some y =>
   rw [e] at hx
   simp only [Option.map_some, Option.some.injEq] at hx
   subst hx
   exact .lf _ _ ((h i y v e (by rw [Nat.zero_add];exact hv)).iff fun k => ⟨False.elim, fun hf => (Dk noL k).1 hf⟩)
 simpa using key
set_option maxRecDepth 100000 in
theorem Zl : okT Tryz.prog 8 51 = true := by kernel_rfl
set_option maxRecDepth 100000 in
theorem Sz {W : World} {base : Nat} {v : Value} {d : DataW H} {p : List MemPlace} (hv : Value.okWide Tryz.prog W .any base 51 v) (h : DataW.Trod enc Tryz.prog W 0 (fun _ => true) true 51 v d p) (hw : ((d.weights Tryz.prog 51).all (· <= reachBytes)) = true) : ∃ x : HouseR, x.fits /\ RelV W noL An (A6 x.row) v := by
 obtain ⟨fuel, hf⟩ := h
 unfold Value.okWide at hv
 rw [Tryz.underlying51] at hv
 obtain ⟨cs, rfl, _, _⟩ := hv
 obtain ⟨row, c1, c2, c3⟩ := Ge 8 fuel _ _ _ Zl hf hw
 obtain ⟨x, rfl, hx⟩ := Sl (n := 2) c1
 exact ⟨x, hx, Zq c2 c3⟩
end
theorem gTab : Tryz.prog.globalNamed "internal/strconv.uint64pow10" = some 1 := by kernel_rfl
theorem gTabType : (Tryz.prog.globals[1]?).map (·.type) = some 264 := by kernel_rfl
theorem X5 : Tryz.prog.cellsOf 143 = 1 := by kernel_rfl
theorem X4 : Tryz.prog.cellsOf 264 = 20 := by kernel_rfl
theorem gLen : Tryz.prog.globalNamed "internal/bytealg.MaxLen" = some 0 := by kernel_rfl
theorem R4 {w : World} (h : w.ShapedOpen Tryz.prog) : ∃ m : Int, w.cell? ⟨0, 0, none⟩ = some (.int .i64 m) :=
 cell_of_shapedOpen_int (zero := #[.int .i64 0]) (t := 3) h (of_decide_eq_true (by kernel_rfl)) (by kernel_rfl) rfl (by kernel_rfl) (by kernel_rfl) Tryz.underlying3
theorem Ym {W : World} {rest : List (String × DataW Unit)} {ps : List MemPlace} (h : DataW.LaidVars Tryz.prog W (("internal/strconv.uint64pow10", Lib.tabData .u64 Lib.pow10Tab) :: rest) ps) : Lib.TabIs Tryz.prog W "internal/strconv.uint64pow10" .u64 Lib.pow10Tab := by
 obtain ⟨g', t', cs, fuel, p, q, hg', ht', hvar, hd, _, _⟩ := h
 obtain rfl := Option.some.inj (gTab.symm.trans hg')
 obtain rfl := Option.some.inj (gTabType.symm.trans ht')
 unfold Lib.TabIs
 rw [hvar, <- Lib.cells_of_tab Tryz.underlying264 Tryz.underlying143 X5 X4 hd]
theorem A1d : Tryz.prog.globalNamed "strconv.ErrSyntax" = none := by kernel_rfl
theorem A1c : Tryz.prog.globalNamed "strconv.ErrRange" = none := by kernel_rfl
theorem Xk {W : World} {rest : List (String × DataW Unit)} {ps : List MemPlace} (hp : DataW.LaidVars Tryz.prog W (("internal/strconv.uint64pow10", Lib.tabData .u64 Lib.pow10Tab) :: rest) ps) (hSh : W.ShapedOpen Tryz.prog) : Glob W :=
 ⟨fun _ => Ym hp, fun g hg => by obtain rfl := Option.some.inj (gLen.symm.trans hg);exact R4 hSh,
  fun g hg => (by rw [A1d] at hg;cases hg), fun g hg => (by rw [A1c] at hg;cases hg)⟩
theorem Xj {W : World} (h : laidMetH Tryz.prog [("math/bits.deBruijn32tab", Rows.laid_math_bits_deBruijn32tab), ("math/bits.deBruijn64tab", Rows.laid_math_bits_deBruijn64tab), ("internal/strconv.uint64pow10", Rows.laid_internal_strconv_uint64pow10)] W) (hSh : W.ShapedOpen Tryz.prog) : Glob W := by
 have h0 : laidMet Tryz.prog _ W := h
 obtain ⟨ps, hp, _⟩ := h0.tail.tail
 exact Xk hp hSh
def A1q : DataW Unit -> Value
 | .lit (.int k n) => .int k n
 | _ => .int .i64 0
def A1p : DataW Unit -> List Value
 | .lit (.int k n) => [.int k n]
 | .agg r => r.map A1q
 | _ => [.int .i64 0]
def Qg : DataW Unit -> Array Value
 | .agg l => (l.flatMap A1p).toArray
 | _ => #[]
def lay (cs : Array Value) : Obj -> Obj
 | .cells _ t frozen => .cells cs t frozen
 | o => o
noncomputable def Ig (os : Os) : World :=
 let w0 := World.holding Tryz.prog os ⟨#[], #[], []⟩
 { w0 with heap := ((((w0.heap.modify 6 (lay (Qg Rows.laid_math_bits_deBruijn32tab))).modify 7 (lay (Qg Rows.laid_math_bits_deBruijn64tab))).modify 1 (lay (Qg Rows.laid_internal_strconv_uint64pow10))).modify 5 (lay (Qg Rows.laid_unicode_utf8_acceptRanges))).modify 4 (lay (Qg Rows.laid_unicode_utf8_first)) }
section
variable {H : Type} {enc : TypeId × Value -> H}
end
section
variable {H : Type} {enc : TypeId × Value -> H}
end
end Go.Proofs.YtcfjofhapbkmfaaGreatDoor
namespace Go.Proofs.YtcfjofhapbkmfaaGreatDoor
open Go.RowKit
/-! ### The reference -/
end Go.Proofs.YtcfjofhapbkmfaaGreatDoor
