/- What the rows of this seat with laid variables share: the laid table, a world that holds them. No conditions but those of each statement. -/
import Derived.Test.YtfchdagalklgpaaGreatDoorCards
import Derived.Test.YtfchdagalklgpaaGreatDoorTie
import Derived.Test.YtfchdagalklgpaaGreatDoorMu
import Derived.Test.YtfchdagalklgpaaGreatDoorMa
set_option linter.unusedSimpArgs false
namespace Go.Proofs.YtfchdagalklgpaaGreatDoor
set_option linter.unusedVariables false
open Go.ChangeShapes Go.WideShapes Go.ChangeAt Go.RowKit Go.Joins
theorem gTab : Tryz.prog.globalNamed "internal/strconv.uint64pow10" = some 1 := by kernel_rfl
theorem gTabType : (Tryz.prog.globals[1]?).map (·.type) = some 176 := by kernel_rfl
theorem cellsU64 : Tryz.prog.cellsOf 115 = 1 := by kernel_rfl
theorem cellsTab : Tryz.prog.cellsOf 176 = 20 := by kernel_rfl
/-- The integers of a laid table, as values. -/
def vals : DataW Unit → Array Value
  | .agg l => (l.map fun | .lit (.int k n) => Value.int k n | _ => .int .i64 0).toArray
  | _ => #[]
theorem laidVars_tail {P : Program} {w : World} {n : String} {d : DataW Unit} {r : List (String × DataW Unit)} {ps : List MemPlace} (h : DataW.LaidVars P w ((n, d) :: r) ps) : ∃ q, DataW.LaidVars P w r q := by
  obtain ⟨g, t, cs, fuel, p, q, _, _, _, _, h, _⟩ := h
  exact ⟨q, h⟩
theorem tab_head {W : World} {rest : List (String × DataW Unit)} {ps : List MemPlace} (h : DataW.LaidVars Tryz.prog W (("internal/strconv.uint64pow10", Lib.tabData .u64 Lib.pow10Tab) :: rest) ps) : Lib.TabIs Tryz.prog W "internal/strconv.uint64pow10" .u64 Lib.pow10Tab := by
  obtain ⟨g', t', cs, fuel, p, q, hg', ht', hvar, hd, _, _⟩ := h
  obtain rfl := Option.some.inj (gTab.symm.trans hg')
  obtain rfl := Option.some.inj (gTabType.symm.trans ht')
  unfold Lib.TabIs
  rw [hvar, ← Lib.cells_of_tab Tryz.underlying176 Tryz.underlying115 cellsU64 cellsTab hd]
/-- A block that holds these cells. -/
def lay (cs : Array Value) : Obj → Obj
  | .cells _ t frozen => .cells cs t frozen
  | o => o
/-- A world for the witnesses: the settled one, the listed tables holding what their initialisers lay. -/
noncomputable def laidWorld (os : Os) : World :=
  { World.holding Tryz.prog os ⟨#[], #[], []⟩ with heap := (((World.holding Tryz.prog os ⟨#[], #[], []⟩).heap.modify 2 (lay (vals Rows.laid_math_bits_deBruijn32tab))).modify 3 (lay (vals Rows.laid_math_bits_deBruijn64tab))).modify 1 (lay (vals Rows.laid_internal_strconv_uint64pow10)) }
end Go.Proofs.YtfchdagalklgpaaGreatDoor
