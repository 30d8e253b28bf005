/- Contracts: strings.Cut, strings.Split, strings.HasPrefix, strings.Count of one byte, strconv.Atoi. Conditions: those of each statement (bounds on lengths). -/
import Derived.Test.YtcfjofhapbkmfaaGreatDoorMd
import Derived.Test.YtcfjofhapbkmfaaGreatDoorMc
import Derived.Test.YtcfjofhapbkmfaaGreatDoorXa
import Derived.Test.YtcfjofhapbkmfaaGreatDoorMh
import Derived.Lib.UnsafeStr
import Derived.Test.YtcfjofhapbkmfaaGreatDoorMy
import Derived.Test.YtcfjofhapbkmfaaGreatDoorMn
import Derived.Test.YtcfjofhapbkmfaaGreatDoorPa
import Derived.Test.YtcfjofhapbkmfaaGreatDoorMk
set_option linter.unusedSimpArgs false
set_option linter.unusedVariables false
namespace Go.Proofs.YtcfjofhapbkmfaaGreatDoor
open Go Go.RowKit
theorem Jv (a b : List UInt8) : Lib.byteCells (a ++ b) = Lib.byteCells a ++ Lib.byteCells b := by simp [Lib.byteCells]
theorem Hw (a : List UInt8) : (Lib.byteCells a).length = a.length := by simp [Lib.byteCells]
theorem CovH.bldE {n : Nat} {T e : TypeId} {b2 : Nat} {s s' : List UInt8} {H H' : AH} (h : s = s') (hb : Nat.blt b2 n = true) (c : CovH n H H') : CovH n (.bld T e b2 (Lib.byteCells s') :: H) (.bld T e b2 (Lib.byteCells s) :: H') := by
 subst h
 exact .bld hb c
/-! ### Numbers -/
/-! ### Where the reading stands -/
end Go.Proofs.YtcfjofhapbkmfaaGreatDoor
