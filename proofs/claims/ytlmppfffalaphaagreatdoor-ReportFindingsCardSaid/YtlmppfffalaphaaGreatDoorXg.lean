/- Arguments that came in: lists of contacts, strings, bytes. No conditions but those of each statement. -/
import Derived.Test.YtlmppfffalaphaaGreatDoorMu
import Derived.Test.YtlmppfffalaphaaGreatDoorPf
import Derived.Test.YtlmppfffalaphaaGreatDoorCards
import Derived.Test.YtlmppfffalaphaaGreatDoorTie
import Derived.Test.YtlmppfffalaphaaGreatDoorMa
import Derived.Shelf.Vars
import Derived.Stop.LaidErr
import Derived.Stop.Texts
import Derived.Stop.ErrReads
set_option linter.unusedSimpArgs false
set_option linter.unusedVariables false
namespace Go.Proofs.YtlmppfffalaphaaGreatDoor
open Go.ChangeShapes Go.WideShapes Go.ChangeAt Go.RowKit Go.Joins
section
variable {H : Type} {enc : TypeId × Value -> H}
set_option maxRecDepth 100000 in
theorem Oa {W : World} {base : Nat} {v : Value} (hv : Value.okWide Tryz.prog W .any base 9 v) : ∃ s : ByteArray, v = .string s := by
 unfold Value.okWide at hv
 rw [Tryz.underlying9] at hv
 cases v with
 | string s => exact ⟨s, rfl⟩
 | _ => exact hv.elim
end
theorem gTab : Tryz.prog.globalNamed "internal/strconv.uint64pow10" = some 1 := by kernel_rfl
theorem gTabType : (Tryz.prog.globals[1]?).map (·.type) = some 262 := by kernel_rfl
theorem Nf : Tryz.prog.cellsOf 197 = 1 := by kernel_rfl
theorem Nd : Tryz.prog.cellsOf 262 = 20 := by kernel_rfl
theorem gLen : Tryz.prog.globalNamed "internal/bytealg.MaxLen" = some 0 := by kernel_rfl
theorem gRan : Tryz.prog.globalNamed "strconv.ErrRange" = some 3 := by kernel_rfl
theorem gSyn : Tryz.prog.globalNamed "strconv.ErrSyntax" = some 2 := by kernel_rfl
theorem Qn : (Tryz.prog.globals[3]?).map (·.type) = some 122 := by kernel_rfl
theorem Qo : (Tryz.prog.globals[2]?).map (·.type) = some 122 := by kernel_rfl
theorem K6 : Tryz.prog.cellsOf 312 = 1 := by kernel_rfl
theorem It : Tryz.prog.cellsOf 9 = 1 := by kernel_rfl
theorem Qc : "*" ++ "errors.errorString" = "*errors.errorString" := by decide
theorem Ls (u : TypeId) (h : Tryz.prog.typeName? 3 u = some "*errors.errorString") : u = 310 :=
 typeName_ptr_named (nm := "errors.errorString") (by rw [Qc];kernel_rfl) (by kernel_rfl) (by decide) u (by rw [Qc];exact h)
theorem K0 {w : World} (h : w.ShapedOpen Tryz.prog) : ∃ m : Int, w.cell? ⟨0, 0, none⟩ = some (.int .i64 m) :=
 cell_of_shapedOpen_int (zero := #[.int .i64 0]) (t := 3) h (of_decide_eq_true (by kernel_rfl)) (by kernel_rfl) rfl (by kernel_rfl) (by kernel_rfl) Tryz.underlying3
theorem Ot {W : World} {rest : List (String × DataW Unit)} {ps : List MemPlace} (h : DataW.LaidVars Tryz.prog W (("internal/strconv.uint64pow10", Lib.tabData .u64 Lib.pow10Tab) :: rest) ps) : Lib.TabIs Tryz.prog W "internal/strconv.uint64pow10" .u64 Lib.pow10Tab := by
 obtain ⟨g', t', cs, fuel, p, q, hg', ht', hvar, hd, _, _⟩ := h
 obtain rfl := Option.some.inj (gTab.symm.trans hg')
 obtain rfl := Option.some.inj (gTabType.symm.trans ht')
 unfold Lib.TabIs
 rw [hvar, <- Lib.cells_of_tab Tryz.underlying262 Tryz.underlying197 Nf Nd hd]
def R3 : DataW Unit -> Value
 | .lit (.int k n) => .int k n
 | _ => .int .i64 0
def R2 : DataW Unit -> List Value
 | .lit (.int k n) => [.int k n]
 | .agg r => r.map R3
 | _ => [.int .i64 0]
def Jp : DataW Unit -> Array Value
 | .agg l => (l.flatMap R2).toArray
 | _ => #[]
def lay (cs : Array Value) : Obj -> Obj
 | .cells _ t frozen => .cells cs t frozen
 | o => o
noncomputable def low : Nat := (World.holding Tryz.prog default ⟨#[], #[], []⟩).heap.size
noncomputable def F2 (os : Os) : World :=
 let w0 := World.holding Tryz.prog os ⟨#[.cells #[.string ⟨#[118, 97, 108, 117, 101, 32, 111, 117, 116, 32, 111, 102, 32, 114, 97, 110, 103, 101]⟩] 312, .cells #[.string ⟨#[105, 110, 118, 97, 108, 105, 100, 32, 115, 121, 110, 116, 97, 120]⟩] 312], #[], []⟩
 { w0 with heap := ((((((w0.heap.modify 6 (lay (Jp Rows.laid_math_bits_deBruijn32tab))).modify 7 (lay (Jp Rows.laid_math_bits_deBruijn64tab))).modify 1 (lay (Jp Rows.laid_internal_strconv_uint64pow10))).modify 5 (lay (Jp Rows.laid_unicode_utf8_acceptRanges))).modify 4 (lay (Jp Rows.laid_unicode_utf8_first))).modify 3 (lay #[.iface 310 (.pointer (some ⟨low, 0, none⟩))])).modify 2 (lay #[.iface 310 (.pointer (some ⟨low + 1, 0, none⟩))]) }
end Go.Proofs.YtlmppfffalaphaaGreatDoor
