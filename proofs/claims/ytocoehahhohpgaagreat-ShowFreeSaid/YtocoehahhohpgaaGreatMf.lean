/- Contracts of the leaf functions of the reference of chapter 2. -/
import Derived.Test.YtocoehahhohpgaaGreatMd
import Derived.Deep.RegionWith
import Derived.IntWalk
set_option linter.unusedSimpArgs false
set_option linter.unusedVariables false
namespace Go.Proofs.YtocoehahhohpgaaGreat
open Go.RowKit Go.Sort
end Go.Proofs.YtocoehahhohpgaaGreat
