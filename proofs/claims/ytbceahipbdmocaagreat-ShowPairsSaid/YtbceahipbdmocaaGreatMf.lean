/- Contracts of the leaf functions of the reference of chapter 2. -/
import Derived.Test.YtbceahipbdmocaaGreatMd
import Derived.Deep.RegionWith
import Derived.IntWalk
import Derived.Test.YtbceahipbdmocaaGreatMe
set_option linter.unusedSimpArgs false
set_option linter.unusedVariables false
namespace Go.Proofs.YtbceahipbdmocaaGreat
open Go.RowKit Go.Sort
end Go.Proofs.YtbceahipbdmocaaGreat
