/- Arguments that came in: lists of contacts, strings, bytes. No conditions but those of each statement. -/
import Derived.Test.YtlapbaiejnaeiaaGreatDoorMu
import Derived.Test.YtlapbaiejnaeiaaGreatDoorPf
import Derived.Test.YtlapbaiejnaeiaaGreatDoorCards
import Derived.Test.YtlapbaiejnaeiaaGreatDoorTie
import Derived.Test.YtlapbaiejnaeiaaGreatDoorMa
import Derived.Shelf.Vars
import Derived.Stop.LaidErr
import Derived.Stop.Texts
import Derived.Stop.ErrReads
set_option linter.unusedSimpArgs false
set_option linter.unusedVariables false
namespace Go.Proofs.YtlapbaiejnaeiaaGreatDoor
open Go.ChangeShapes Go.WideShapes Go.ChangeAt Go.RowKit Go.Joins
set_option maxRecDepth 100000 in
theorem Tq {n : Nat} {row : List Lf} (h : Bi Tryz.prog (n + 2) 34 row) : ∃ x : Int × Int, row = [.i x.1, .i x.2] := by
 unfold Bi at h
 rw [Tryz.underlying34] at h
 obtain ⟨_, _, rfl, h1, _, _, rfl, h2, rfl⟩ := h
 obtain ⟨a1, rfl, _⟩ := O3 h1
 obtain ⟨a2, rfl, _⟩ := O3 h2
 exact ⟨(a1, a2), rfl⟩
set_option maxRecDepth 100000 in
theorem O2 {n : Nat} {row : List Lf} (h : Bi Tryz.prog (n + 3) 36 row) : ∃ x : ConR, row = x.row /\ True := by
 unfold Bi at h
 rw [Tryz.underlying36] at h
 obtain ⟨_, _, rfl, h1, _, _, rfl, h2, _, _, rfl, h3, rfl⟩ := h
 obtain ⟨a1, rfl⟩ := Jc h1
 obtain ⟨a2, rfl⟩ := Jc h2
 obtain ⟨a3, rfl⟩ := Tq h3
 exact ⟨⟨a1, a2, a3.1, a3.2⟩, rfl, trivial⟩
set_option maxRecDepth 100000 in
theorem Sd : okT Tryz.prog 8 22 = true := by kernel_rfl
theorem Nv : Tryz.prog.bytesOf 36 = 48 := by kernel_rfl
section
variable {H : Type} {enc : TypeId × Value -> H}
set_option maxRecDepth 100000 in
theorem N3 {W : World} {base : Nat} {v : Value} {d : DataW H} {p : List MemPlace} (hv : Value.okWide Tryz.prog W .any base 22 v) (h : DataW.Trod enc Tryz.prog W 0 (fun _ => true) true 22 v d p) (hw : ((d.weights Tryz.prog 22).all (· <= reachBytes)) = true) : ∃ l : List ConR, l.length <= 1000000000000000 /\ RelV W noL Am (.sl (l.map ConR.row)) v := by
 obtain ⟨a, len, cap, rfl⟩ := okWide_slice Tryz.underlying22 hv
 obtain ⟨fuel, hf⟩ := h
 obtain ⟨row, c1, c2, c3⟩ := G4 8 fuel _ _ _ Sd hf hw
 obtain ⟨l, rfl, h1, h2, _⟩ := To (n := 7) Tryz.underlying22 (fun r => O2 (n := 4)) c1
 rw [Nv] at h2
 refine ⟨l, by simp only [reachBytes] at h2;omega, .lf _ _ ((c3 0 _ _ rfl (by simp [Value.cells])).iff fun k => ⟨False.elim, fun hf => (Cu noL k).1 hf⟩)⟩
set_option maxRecDepth 100000 in
theorem Pb {W : World} {base : Nat} {v : Value} (hv : Value.okWide Tryz.prog W .any base 9 v) : ∃ s : ByteArray, v = .string s := by
 unfold Value.okWide at hv
 rw [Tryz.underlying9] at hv
 cases v with
 | string s => exact ⟨s, rfl⟩
 | _ => exact hv.elim
end
set_option maxRecDepth 100000 in
theorem Y2 {W : World} {base : Nat} {v : Value} (hv : Value.okWide Tryz.prog W .any base 5 v) : ∃ p : Int, (0 <= p /\ p <= 255) /\ v = .int .u8 p := by
 unfold Value.okWide at hv
 rw [Tryz.underlying5] at hv
 unfold Cell.okWide at hv
 rw [Tryz.underlying5] at hv
 unfold Cell.ok at hv
 rw [Tryz.underlying5] at hv
 cases v with
 | int k n =>
  obtain ⟨rfl, h⟩ := hv
  have h1 : IntKind.u8.min = 0 := rfl
  have h2 : IntKind.u8.max = 255 := rfl
  unfold IntKind.has at h
  exact ⟨n, by rw [h1, h2] at h;simpa using h, rfl⟩
 | _ => exact hv.elim
theorem gTab : Tryz.prog.globalNamed "internal/strconv.uint64pow10" = some 3 := by kernel_rfl
theorem gTabType : (Tryz.prog.globals[3]?).map (·.type) = some 305 := by kernel_rfl
theorem Vw : Tryz.prog.cellsOf 155 = 1 := by kernel_rfl
theorem Vv : Tryz.prog.cellsOf 305 = 20 := by kernel_rfl
theorem gLen : Tryz.prog.globalNamed "internal/bytealg.MaxLen" = some 0 := by kernel_rfl
theorem gRan : Tryz.prog.globalNamed "strconv.ErrRange" = some 2 := by kernel_rfl
theorem gSyn : Tryz.prog.globalNamed "strconv.ErrSyntax" = some 1 := by kernel_rfl
theorem Yw : (Tryz.prog.globals[2]?).map (·.type) = some 72 := by kernel_rfl
theorem Yx : (Tryz.prog.globals[1]?).map (·.type) = some 72 := by kernel_rfl
theorem Qw : Tryz.prog.cellsOf 283 = 1 := by kernel_rfl
theorem Ny : Tryz.prog.cellsOf 9 = 1 := by kernel_rfl
theorem Yo : "*" ++ "errors.errorString" = "*errors.errorString" := by decide
theorem U0 (u : TypeId) (h : Tryz.prog.typeName? 3 u = some "*errors.errorString") : u = 281 :=
 typeName_ptr_named (nm := "errors.errorString") (by rw [Yo];kernel_rfl) (by kernel_rfl) (by decide) u (by rw [Yo];exact h)
theorem Qk {w : World} (h : w.ShapedOpen Tryz.prog) : ∃ m : Int, w.cell? ⟨0, 0, none⟩ = some (.int .i64 m) :=
 cell_of_shapedOpen_int (zero := #[.int .i64 0]) (t := 3) h (of_decide_eq_true (by kernel_rfl)) (by kernel_rfl) rfl (by kernel_rfl) (by kernel_rfl) Tryz.underlying3
theorem X9 {W : World} {rest : List (String × DataW Unit)} {ps : List MemPlace} (h : DataW.LaidVars Tryz.prog W (("internal/strconv.uint64pow10", Lib.tabData .u64 Lib.pow10Tab) :: rest) ps) : Lib.TabIs Tryz.prog W "internal/strconv.uint64pow10" .u64 Lib.pow10Tab := by
 obtain ⟨g', t', cs, fuel, p, q, hg', ht', hvar, hd, _, _⟩ := h
 obtain rfl := Option.some.inj (gTab.symm.trans hg')
 obtain rfl := Option.some.inj (gTabType.symm.trans ht')
 unfold Lib.TabIs
 rw [hvar, <- Lib.cells_of_tab Tryz.underlying305 Tryz.underlying155 Vw Vv hd]
theorem R6 {W : World} (h : laidMetH Tryz.prog [("math/bits.deBruijn32tab", Rows.laid_math_bits_deBruijn32tab), ("math/bits.deBruijn64tab", Rows.laid_math_bits_deBruijn64tab), ("internal/strconv.uint64pow10", Rows.laid_internal_strconv_uint64pow10), ("unicode/utf8.acceptRanges", Rows.laid_unicode_utf8_acceptRanges), ("strconv.ErrRange", Rows.laid_strconv_ErrRange), ("strconv.ErrSyntax", Rows.laid_strconv_ErrSyntax), ("unicode/utf8.first", Rows.laid_unicode_utf8_first)] W) (hSh : W.ShapedOpen Tryz.prog) : Glob W := by
 have h0 : laidMet Tryz.prog _ W := h
 obtain ⟨ps, hp, _⟩ := h0.tail.tail
 obtain ⟨a1, s1, hv1, _⟩ := laid_sentinel h0.tail.tail.tail.tail gRan Yw Tryz.underlying72 U0 Tryz.underlying281 Tryz.underlying283 rfl rfl Tryz.underlying9 Qw Ny
 obtain ⟨a2, s2, hv2, _⟩ := laid_sentinel h0.tail.tail.tail.tail.tail gSyn Yx Tryz.underlying72 U0 Tryz.underlying281 Tryz.underlying283 rfl rfl Tryz.underlying9 Qw Ny
 exact ⟨fun _ => X9 hp, fun g hg => by obtain rfl := Option.some.inj (gLen.symm.trans hg);exact Qk hSh,
  fun g hg => by obtain rfl := Option.some.inj (gSyn.symm.trans hg);exact ⟨_, by simpa using World.var?_cell gSyn hv2 0, .inr ⟨_, _, rfl⟩⟩,
  fun g hg => by obtain rfl := Option.some.inj (gRan.symm.trans hg);exact ⟨_, by simpa using World.var?_cell gRan hv1 0, .inr ⟨_, _, rfl⟩⟩⟩
def Z7 : DataW Unit -> Value
 | .lit (.int k n) => .int k n
 | _ => .int .i64 0
def Z6 : DataW Unit -> List Value
 | .lit (.int k n) => [.int k n]
 | .agg r => r.map Z7
 | _ => [.int .i64 0]
def Q2 : DataW Unit -> Array Value
 | .agg l => (l.flatMap Z6).toArray
 | _ => #[]
def lay (cs : Array Value) : Obj -> Obj
 | .cells _ t frozen => .cells cs t frozen
 | o => o
noncomputable def low : Nat := (World.holding Tryz.prog default ⟨#[], #[], []⟩).heap.size
noncomputable def Dy (os : Os) : World :=
 let w0 := World.holding Tryz.prog os ⟨#[.cells #[.string ⟨#[118, 97, 108, 117, 101, 32, 111, 117, 116, 32, 111, 102, 32, 114, 97, 110, 103, 101]⟩] 283, .cells #[.string ⟨#[105, 110, 118, 97, 108, 105, 100, 32, 115, 121, 110, 116, 97, 120]⟩] 283], #[], []⟩
 { w0 with heap := ((((((w0.heap.modify 8 (lay (Q2 Rows.laid_math_bits_deBruijn32tab))).modify 9 (lay (Q2 Rows.laid_math_bits_deBruijn64tab))).modify 3 (lay (Q2 Rows.laid_internal_strconv_uint64pow10))).modify 5 (lay (Q2 Rows.laid_unicode_utf8_acceptRanges))).modify 4 (lay (Q2 Rows.laid_unicode_utf8_first))).modify 2 (lay #[.iface 281 (.pointer (some ⟨low, 0, none⟩))])).modify 1 (lay #[.iface 281 (.pointer (some ⟨low + 1, 0, none⟩))]) }
end Go.Proofs.YtlapbaiejnaeiaaGreatDoor
