/- What the rows of this seat share: the laid variables of the rows with fewer of them. No conditions but those of each statement. -/
import Derived.Test.YtlmppfffalaphaaGreatDoorXg
import Derived.Test.YtlmppfffalaphaaGreatDoorYb
set_option linter.unusedSimpArgs false
set_option linter.unusedVariables false
namespace Go.Proofs.YtlmppfffalaphaaGreatDoor
open Go.ChangeShapes Go.WideShapes Go.ChangeAt Go.RowKit Go.Joins
theorem Np {W : World} (h : laidMetH Tryz.prog [("math/bits.deBruijn32tab", Rows.laid_math_bits_deBruijn32tab), ("math/bits.deBruijn64tab", Rows.laid_math_bits_deBruijn64tab), ("internal/strconv.uint64pow10", Rows.laid_internal_strconv_uint64pow10), ("strconv.ErrRange", Rows.laid_strconv_ErrRange), ("strconv.ErrSyntax", Rows.laid_strconv_ErrSyntax)] W) (hSh : W.ShapedOpen Tryz.prog) : Glob W := by
 have h0 : laidMet Tryz.prog _ W := h
 obtain ⟨ps, hp, _⟩ := h0.tail.tail
 obtain ⟨a1, s1, hv1, _⟩ := laid_sentinel h0.tail.tail.tail gRan Qn Tryz.underlying122 Ls Tryz.underlying310 Tryz.underlying312 rfl rfl Tryz.underlying9 K6 It
 obtain ⟨a2, s2, hv2, _⟩ := laid_sentinel h0.tail.tail.tail.tail gSyn Qo Tryz.underlying122 Ls Tryz.underlying310 Tryz.underlying312 rfl rfl Tryz.underlying9 K6 It
 exact ⟨fun _ => Ot hp, fun g hg => by obtain rfl := Option.some.inj (gLen.symm.trans hg);exact K0 hSh,
  fun g hg => by obtain rfl := Option.some.inj (gSyn.symm.trans hg);exact ⟨_, by simpa using World.var?_cell gSyn hv2 0, .inr ⟨_, _, rfl⟩⟩,
  fun g hg => by obtain rfl := Option.some.inj (gRan.symm.trans hg);exact ⟨_, by simpa using World.var?_cell gRan hv1 0, .inr ⟨_, _, rfl⟩⟩⟩
set_option maxRecDepth 100000 in
theorem Iv {n : Nat} {row : List Lf} (h : Au Tryz.prog (n + 3) 26 row) : ∃ x : FinR, row = x.row /\ True := by
 unfold Au at h
 rw [Tryz.underlying26] at h
 obtain ⟨_, _, rfl, h1, _, _, rfl, h2, rfl⟩ := h
 obtain ⟨a1, rfl, _⟩ := Ng h1
 obtain ⟨a2, rfl⟩ := Ju h2
 exact ⟨⟨a1, a2⟩, rfl, trivial⟩
set_option maxRecDepth 100000 in
theorem Kw : okT Tryz.prog 8 22 = true := by kernel_rfl
section
variable {H : Type} {enc : TypeId × Value -> H}
set_option maxRecDepth 100000 in
theorem Mi {W : World} {base : Nat} {v : Value} {d : DataW H} {p : List MemPlace} (hv : Value.okWide Tryz.prog W .any base 22 v) (h : DataW.Trod enc Tryz.prog W 0 (fun _ => true) true 22 v d p) (hw : ((d.weights Tryz.prog 22).all (· <= reachBytes)) = true) : ∃ l : List FinR, RelV W noL Af (.sl (l.map FinR.row)) v := by
 obtain ⟨a, len, cap, rfl⟩ := okWide_slice Tryz.underlying22 hv
 obtain ⟨fuel, hf⟩ := h
 obtain ⟨row, c1, c2, c3⟩ := Dr 8 fuel _ _ _ Kw hf hw
 obtain ⟨l, rfl, h1, h2, _⟩ := Lm (n := 7) Tryz.underlying22 (fun r => Iv (n := 4)) c1
 exact ⟨l, .lf _ _ ((c3 0 _ _ rfl (by simp [Value.cells])).iff fun k => ⟨False.elim, fun hf => (Bs noL k).1 hf⟩)⟩
end
end Go.Proofs.YtlmppfffalaphaaGreatDoor
