/- Arguments that came in: curves and fractions. No conditions but those of each statement. -/
import Derived.Test.YtlncmkafjjomgaaGreatMu
import Derived.Test.YtlncmkafjjomgaaGreatNh
set_option linter.unusedSimpArgs false
namespace Go.Proofs.YtlncmkafjjomgaaGreat
set_option linter.unusedVariables false
open Go.ChangeShapes Go.WideShapes Go.ChangeAt Go.RowKit Go.Joins
set_option maxRecDepth 100000 in
theorem conf_frac {n : Nat} {row : List Lf} (h : ConfR Tryz.prog (n + 2) 30 row) : ∃ x : Int × Int, row = [.i x.1, .i x.2] ∧ (-9223372036854775808 ≤ x.1 ∧ x.1 ≤ 9223372036854775807) ∧ -9223372036854775808 ≤ x.2 ∧ x.2 ≤ 9223372036854775807 := by
 unfold ConfR at h
 rw [Tryz.underlying30] at h
 obtain ⟨_, _, rfl, h1, _, _, rfl, h2, rfl⟩ := h
 obtain ⟨a1, rfl, b1⟩ := conf_int h1
 obtain ⟨a2, rfl, b2⟩ := conf_int h2
 exact ⟨(a1, a2), rfl, b1, b2⟩
set_option maxRecDepth 100000 in
theorem conf_piece {n : Nat} {row : List Lf} (h : ConfR Tryz.prog (n + 3) 94 row) : ∃ x : PieceR, row = x.row ∧ True := by
 unfold ConfR at h
 rw [Tryz.underlying94] at h
 obtain ⟨_, _, rfl, h1, _, _, rfl, h2, _, _, rfl, h3, _, _, rfl, h4, rfl⟩ := h
 obtain ⟨a1, rfl, _⟩ := conf_frac h1
 obtain ⟨a2, rfl, _⟩ := conf_frac h2
 obtain ⟨a3, rfl, _⟩ := conf_frac h3
 obtain ⟨a4, rfl, _⟩ := conf_frac h4
 exact ⟨⟨a1.1, a1.2, a2.1, a2.2, a3.1, a3.2, a4.1, a4.2⟩, rfl, trivial⟩
set_option maxRecDepth 100000 in
theorem okFrac : okT Tryz.prog 8 30 = true := by kernel_rfl
theorem okCurve : okT Tryz.prog 8 28 = true := by kernel_rfl
theorem bytesPiece : Tryz.prog.bytesOf 94 = 64 := by kernel_rfl
section
variable {H : Type} {enc : TypeId × Value → H}
set_option maxRecDepth 100000 in
theorem open_frac {W : World} {base : Nat} {v : Value} {d : DataW H} {p : List MemPlace} (hv : Value.okWide Tryz.prog W .any base 30 v) (h : DataW.Trod enc Tryz.prog W 0 (fun _ => true) true 30 v d p) (hw : ((d.weights Tryz.prog 30).all (· ≤ reachBytes)) = true) : ∃ a b : Int, RelV W noL noPl (rowA [.i a, .i b]) v := by
 obtain ⟨fuel, hf⟩ := h
 unfold Value.okWide at hv
 rw [Tryz.underlying30] at hv
 obtain ⟨cs, rfl, _, _⟩ := hv
 obtain ⟨row, c1, c2, c3⟩ := trod_conf 8 fuel _ _ _ okFrac hf hw
 obtain ⟨x, rfl, hx⟩ := conf_frac (n := 6) c1
 exact ⟨x.1, x.2, rel_row c2 c3⟩
set_option maxRecDepth 100000 in
theorem open_curve {W : World} {base : Nat} {v : Value} {d : DataW H} {p : List MemPlace} (hv : Value.okWide Tryz.prog W .any base 28 v) (h : DataW.Trod enc Tryz.prog W 0 (fun _ => true) true 28 v d p) (hw : ((d.weights Tryz.prog 28).all (· ≤ reachBytes)) = true) : ∃ l : List PieceR, l.length ≤ 1000000000000000 ∧ RelV W noL noPl (.sl (l.map PieceR.row)) v := by
 obtain ⟨a, len, cap, rfl⟩ := okWide_slice Tryz.underlying28 hv
 obtain ⟨fuel, hf⟩ := h
 obtain ⟨row, c1, c2, c3⟩ := trod_conf 8 fuel _ _ _ okCurve hf hw
 obtain ⟨l, rfl, h1, h2, _⟩ := conf_rows (n := 7) Tryz.underlying28 (fun r => conf_piece (n := 4)) c1
 rw [bytesPiece] at h2
 refine ⟨l, by simp only [reachBytes] at h2;omega, .lf _ _ ((c3 0 _ _ rfl (by simp [Value.cells])).iff fun k => ⟨False.elim, fun hf => (fb_no noL k).1 hf⟩)⟩
end
end Go.Proofs.YtlncmkafjjomgaaGreat
