/- Kh of the types of the program, as instances (printed by a program). No conditions. -/
import Derived.Test.YtlapbaiejnaeiaaGreatDoorMa
import Derived.Test.YtlapbaiejnaeiaaGreatDoorChecked
set_option linter.unusedSimpArgs false
set_option linter.unusedVariables false
namespace Go.Proofs.YtlapbaiejnaeiaaGreatDoor
open Go Go.Proofs
instance : HasU Tryz.prog 3 (.int .i64) := ⟨Tryz.underlying3⟩
instance : HasS Tryz.prog 3 1 := ⟨by kernel_rfl⟩
instance : HasB Tryz.prog 3 8 := ⟨by kernel_rfl⟩
instance : HasZ Tryz.prog 3 (.int .i64 0) := ⟨by kernel_rfl⟩
instance : HasU Tryz.prog 4 (.bool) := ⟨Tryz.underlying4⟩
instance : HasS Tryz.prog 4 1 := ⟨by kernel_rfl⟩
instance : HasB Tryz.prog 4 1 := ⟨by kernel_rfl⟩
instance : HasZ Tryz.prog 4 (.bool false) := ⟨by kernel_rfl⟩
instance : HasU Tryz.prog 5 (.int .u8) := ⟨Tryz.underlying5⟩
instance : HasU Tryz.prog 9 (.string) := ⟨Tryz.underlying9⟩
instance : HasS Tryz.prog 9 1 := ⟨by kernel_rfl⟩
instance : HasB Tryz.prog 9 16 := ⟨by kernel_rfl⟩
instance : HasZ Tryz.prog 9 (.string ⟨#[]⟩) := ⟨by kernel_rfl⟩
instance : HasU Tryz.prog 21 (.int .i32) := ⟨Tryz.underlying21⟩
instance : HasU Tryz.prog 22 (.slice 36) := ⟨Tryz.underlying22⟩
instance : HasZ Tryz.prog 22 (.slice none 0 0) := ⟨by kernel_rfl⟩
instance : HasU Tryz.prog 25 (.int .i64) := ⟨Tryz.underlying25⟩
instance : HasS Tryz.prog 25 1 := ⟨by kernel_rfl⟩
instance : HasZ Tryz.prog 25 (.int .i64 0) := ⟨by kernel_rfl⟩
instance : HasU Tryz.prog 34 (.struct (Al Tryz.prog 34)) := ⟨by kernel_rfl⟩
instance : HasF Tryz.prog 34 0 0 := ⟨_, _, 1, Tryz.underlying34, rfl, by kernel_rfl, rfl, rfl⟩
instance : HasF Tryz.prog 34 1 1 := ⟨_, _, 1, Tryz.underlying34, rfl, by kernel_rfl, rfl, rfl⟩
instance : HasL Tryz.prog 34 [(0, 1), (1, 1)] := ⟨_, Tryz.underlying34, fun w => by kernel_rfl⟩
instance : HasS Tryz.prog 34 2 := ⟨by kernel_rfl⟩
instance : HasZ Tryz.prog 34 (.agg #[(.int .i64 0), (.int .i64 0)]) := ⟨by kernel_rfl⟩
instance : HasU Tryz.prog 36 (.struct (Al Tryz.prog 36)) := ⟨by kernel_rfl⟩
instance : HasF Tryz.prog 36 0 0 := ⟨_, _, 1, Tryz.underlying36, rfl, by kernel_rfl, rfl, rfl⟩
instance : HasF Tryz.prog 36 1 1 := ⟨_, _, 1, Tryz.underlying36, rfl, by kernel_rfl, rfl, rfl⟩
instance : HasF Tryz.prog 36 2 2 := ⟨_, _, 2, Tryz.underlying36, rfl, by kernel_rfl, rfl, rfl⟩
instance : HasL Tryz.prog 36 [(0, 1), (1, 1), (2, 2)] := ⟨_, Tryz.underlying36, fun w => by kernel_rfl⟩
instance : HasS Tryz.prog 36 4 := ⟨by kernel_rfl⟩
instance : HasB Tryz.prog 36 48 := ⟨by kernel_rfl⟩
instance : HasZ Tryz.prog 36 (.agg #[(.string ⟨#[]⟩), (.string ⟨#[]⟩), (.int .i64 0), (.int .i64 0)]) := ⟨by kernel_rfl⟩
instance : HasU Tryz.prog 43 (.slice 105) := ⟨Tryz.underlying43⟩
instance : HasU Tryz.prog 44 (.slice 130) := ⟨Tryz.underlying44⟩
instance : HasU Tryz.prog 46 (.struct (Al Tryz.prog 46)) := ⟨by kernel_rfl⟩
instance : HasF Tryz.prog 46 0 0 := ⟨_, _, 1, Tryz.underlying46, rfl, by kernel_rfl, rfl, rfl⟩
instance : HasF Tryz.prog 46 1 1 := ⟨_, _, 1, Tryz.underlying46, rfl, by kernel_rfl, rfl, rfl⟩
instance : HasF Tryz.prog 46 2 2 := ⟨_, _, 1, Tryz.underlying46, rfl, by kernel_rfl, rfl, rfl⟩
instance : HasF Tryz.prog 46 3 3 := ⟨_, _, 1, Tryz.underlying46, rfl, by kernel_rfl, rfl, rfl⟩
instance : HasL Tryz.prog 46 [(0, 1), (1, 1), (2, 1), (3, 1)] := ⟨_, Tryz.underlying46, fun w => by kernel_rfl⟩
instance : HasS Tryz.prog 46 4 := ⟨by kernel_rfl⟩
instance : HasZ Tryz.prog 46 (.agg #[(.string ⟨#[]⟩), (.int .i64 0), (.slice none 0 0), (.slice none 0 0)]) := ⟨by kernel_rfl⟩
instance : HasU Tryz.prog 47 (.slice 133) := ⟨Tryz.underlying47⟩
instance : HasU Tryz.prog 48 (.slice 99) := ⟨Tryz.underlying48⟩
instance : HasU Tryz.prog 50 (.struct (Al Tryz.prog 50)) := ⟨by kernel_rfl⟩
instance : HasF Tryz.prog 50 0 0 := ⟨_, _, 1, Tryz.underlying50, rfl, by kernel_rfl, rfl, rfl⟩
instance : HasF Tryz.prog 50 1 1 := ⟨_, _, 1, Tryz.underlying50, rfl, by kernel_rfl, rfl, rfl⟩
instance : HasL Tryz.prog 50 [(0, 1), (1, 1)] := ⟨_, Tryz.underlying50, fun w => by kernel_rfl⟩
instance : HasS Tryz.prog 50 2 := ⟨by kernel_rfl⟩
instance : HasZ Tryz.prog 50 (.agg #[(.slice none 0 0), (.slice none 0 0)]) := ⟨by kernel_rfl⟩
instance : HasU Tryz.prog 51 (.slice 3) := ⟨Tryz.underlying51⟩
instance : HasS Tryz.prog 51 1 := ⟨by kernel_rfl⟩
instance : HasB Tryz.prog 51 24 := ⟨by kernel_rfl⟩
instance : HasZ Tryz.prog 51 (.slice none 0 0) := ⟨by kernel_rfl⟩
instance : HasZ Tryz.prog 70 (.agg #[(.pointer none), (.slice none 0 0)]) := ⟨by kernel_rfl⟩
instance : HasU Tryz.prog 79 (.slice 9) := ⟨Tryz.underlying79⟩
instance : HasU Tryz.prog 96 (.slice 107) := ⟨Tryz.underlying96⟩
instance : HasU Tryz.prog 99 (.array 2 9) := ⟨Tryz.underlying99⟩
instance : HasS Tryz.prog 99 2 := ⟨by kernel_rfl⟩
instance : HasZ Tryz.prog 99 (.agg #[(.string ⟨#[]⟩), (.string ⟨#[]⟩)]) := ⟨by kernel_rfl⟩
instance : HasU Tryz.prog 102 (.slice 181) := ⟨Tryz.underlying102⟩
instance : HasU Tryz.prog 103 (.slice 183) := ⟨Tryz.underlying103⟩
instance : HasU Tryz.prog 105 (.struct (Al Tryz.prog 105)) := ⟨by kernel_rfl⟩
instance : HasF Tryz.prog 105 0 0 := ⟨_, _, 1, Tryz.underlying105, rfl, by kernel_rfl, rfl, rfl⟩
instance : HasF Tryz.prog 105 1 1 := ⟨_, _, 1, Tryz.underlying105, rfl, by kernel_rfl, rfl, rfl⟩
instance : HasF Tryz.prog 105 2 2 := ⟨_, _, 1, Tryz.underlying105, rfl, by kernel_rfl, rfl, rfl⟩
instance : HasF Tryz.prog 105 3 3 := ⟨_, _, 1, Tryz.underlying105, rfl, by kernel_rfl, rfl, rfl⟩
instance : HasF Tryz.prog 105 4 4 := ⟨_, _, 1, Tryz.underlying105, rfl, by kernel_rfl, rfl, rfl⟩
instance : HasF Tryz.prog 105 5 5 := ⟨_, _, 1, Tryz.underlying105, rfl, by kernel_rfl, rfl, rfl⟩
instance : HasF Tryz.prog 105 6 6 := ⟨_, _, 1, Tryz.underlying105, rfl, by kernel_rfl, rfl, rfl⟩
instance : HasF Tryz.prog 105 7 7 := ⟨_, _, 1, Tryz.underlying105, rfl, by kernel_rfl, rfl, rfl⟩
instance : HasF Tryz.prog 105 8 8 := ⟨_, _, 1, Tryz.underlying105, rfl, by kernel_rfl, rfl, rfl⟩
instance : HasF Tryz.prog 105 9 9 := ⟨_, _, 1, Tryz.underlying105, rfl, by kernel_rfl, rfl, rfl⟩
instance : HasF Tryz.prog 105 10 10 := ⟨_, _, 1, Tryz.underlying105, rfl, by kernel_rfl, rfl, rfl⟩
instance : HasF Tryz.prog 105 11 11 := ⟨_, _, 1, Tryz.underlying105, rfl, by kernel_rfl, rfl, rfl⟩
instance : HasF Tryz.prog 105 12 12 := ⟨_, _, 1, Tryz.underlying105, rfl, by kernel_rfl, rfl, rfl⟩
instance : HasS Tryz.prog 105 13 := ⟨by kernel_rfl⟩
instance : HasZ Tryz.prog 105 (.agg #[(.string ⟨#[]⟩), (.int .i64 0), (.int .i64 0), (.int .i64 0), (.int .i64 0), (.slice none 0 0), (.int .i64 0), (.int .i64 0), (.int .i64 0), (.int .i64 0), (.int .i64 0), (.slice none 0 0), (.slice none 0 0)]) := ⟨by kernel_rfl⟩
instance : HasU Tryz.prog 107 (.struct (Al Tryz.prog 107)) := ⟨by kernel_rfl⟩
instance : HasF Tryz.prog 107 0 0 := ⟨_, _, 1, Tryz.underlying107, rfl, by kernel_rfl, rfl, rfl⟩
instance : HasF Tryz.prog 107 1 1 := ⟨_, _, 1, Tryz.underlying107, rfl, by kernel_rfl, rfl, rfl⟩
instance : HasL Tryz.prog 107 [(0, 1), (1, 1)] := ⟨_, Tryz.underlying107, fun w => by kernel_rfl⟩
instance : HasS Tryz.prog 107 2 := ⟨by kernel_rfl⟩
instance : HasB Tryz.prog 107 16 := ⟨by kernel_rfl⟩
instance : HasZ Tryz.prog 107 (.agg #[(.int .i64 0), (.int .i64 0)]) := ⟨by kernel_rfl⟩
instance : HasU Tryz.prog 109 (.slice 191) := ⟨Tryz.underlying109⟩
instance : HasU Tryz.prog 123 (.slice 51) := ⟨Tryz.underlying123⟩
instance : HasU Tryz.prog 125 (.struct (Al Tryz.prog 125)) := ⟨by kernel_rfl⟩
instance : HasF Tryz.prog 125 1 1 := ⟨_, _, 1, Tryz.underlying125, rfl, by kernel_rfl, rfl, rfl⟩
instance : HasF Tryz.prog 125 2 2 := ⟨_, _, 1, Tryz.underlying125, rfl, by kernel_rfl, rfl, rfl⟩
instance : HasL Tryz.prog 125 [(0, 1), (1, 1), (2, 1)] := ⟨_, Tryz.underlying125, fun w => by kernel_rfl⟩
instance : HasS Tryz.prog 125 3 := ⟨by kernel_rfl⟩
instance : HasZ Tryz.prog 125 (.agg #[(.slice none 0 0), (.slice none 0 0), (.slice none 0 0)]) := ⟨by kernel_rfl⟩
instance : HasU Tryz.prog 130 (.struct (Al Tryz.prog 130)) := ⟨by kernel_rfl⟩
instance : HasF Tryz.prog 130 0 0 := ⟨_, _, 1, Tryz.underlying130, rfl, by kernel_rfl, rfl, rfl⟩
instance : HasF Tryz.prog 130 1 1 := ⟨_, _, 1, Tryz.underlying130, rfl, by kernel_rfl, rfl, rfl⟩
instance : HasF Tryz.prog 130 2 2 := ⟨_, _, 1, Tryz.underlying130, rfl, by kernel_rfl, rfl, rfl⟩
instance : HasF Tryz.prog 130 3 3 := ⟨_, _, 1, Tryz.underlying130, rfl, by kernel_rfl, rfl, rfl⟩
instance : HasS Tryz.prog 130 4 := ⟨by kernel_rfl⟩
instance : HasZ Tryz.prog 130 (.agg #[(.string ⟨#[]⟩), (.int .i64 0), (.int .i64 0), (.int .i64 0)]) := ⟨by kernel_rfl⟩
instance : HasU Tryz.prog 131 (.slice 135) := ⟨Tryz.underlying131⟩
instance : HasU Tryz.prog 133 (.struct (Al Tryz.prog 133)) := ⟨by kernel_rfl⟩
instance : HasF Tryz.prog 133 0 0 := ⟨_, _, 1, Tryz.underlying133, rfl, by kernel_rfl, rfl, rfl⟩
instance : HasF Tryz.prog 133 1 1 := ⟨_, _, 1, Tryz.underlying133, rfl, by kernel_rfl, rfl, rfl⟩
instance : HasF Tryz.prog 133 2 2 := ⟨_, _, 1, Tryz.underlying133, rfl, by kernel_rfl, rfl, rfl⟩
instance : HasF Tryz.prog 133 3 3 := ⟨_, _, 1, Tryz.underlying133, rfl, by kernel_rfl, rfl, rfl⟩
instance : HasF Tryz.prog 133 4 4 := ⟨_, _, 1, Tryz.underlying133, rfl, by kernel_rfl, rfl, rfl⟩
instance : HasF Tryz.prog 133 5 5 := ⟨_, _, 1, Tryz.underlying133, rfl, by kernel_rfl, rfl, rfl⟩
instance : HasF Tryz.prog 133 6 6 := ⟨_, _, 1, Tryz.underlying133, rfl, by kernel_rfl, rfl, rfl⟩
instance : HasS Tryz.prog 133 7 := ⟨by kernel_rfl⟩
instance : HasZ Tryz.prog 133 (.agg #[(.string ⟨#[]⟩), (.string ⟨#[]⟩), (.int .i64 0), (.int .i64 0), (.slice none 0 0), (.int .i64 0), (.int .i64 0)]) := ⟨by kernel_rfl⟩
instance : HasU Tryz.prog 135 (.struct (Al Tryz.prog 135)) := ⟨by kernel_rfl⟩
instance : HasF Tryz.prog 135 0 0 := ⟨_, _, 1, Tryz.underlying135, rfl, by kernel_rfl, rfl, rfl⟩
instance : HasF Tryz.prog 135 1 1 := ⟨_, _, 1, Tryz.underlying135, rfl, by kernel_rfl, rfl, rfl⟩
instance : HasF Tryz.prog 135 2 2 := ⟨_, _, 1, Tryz.underlying135, rfl, by kernel_rfl, rfl, rfl⟩
instance : HasF Tryz.prog 135 3 3 := ⟨_, _, 1, Tryz.underlying135, rfl, by kernel_rfl, rfl, rfl⟩
instance : HasF Tryz.prog 135 4 4 := ⟨_, _, 1, Tryz.underlying135, rfl, by kernel_rfl, rfl, rfl⟩
instance : HasS Tryz.prog 135 5 := ⟨by kernel_rfl⟩
instance : HasZ Tryz.prog 135 (.agg #[(.string ⟨#[]⟩), (.int .i64 0), (.int .i64 0), (.int .i64 0), (.int .i64 0)]) := ⟨by kernel_rfl⟩
instance : HasU Tryz.prog 155 (.int .u64) := ⟨Tryz.underlying155⟩
instance : HasU Tryz.prog 181 (.struct (Al Tryz.prog 181)) := ⟨by kernel_rfl⟩
instance : HasF Tryz.prog 181 0 0 := ⟨_, _, 1, Tryz.underlying181, rfl, by kernel_rfl, rfl, rfl⟩
instance : HasF Tryz.prog 181 1 1 := ⟨_, _, 1, Tryz.underlying181, rfl, by kernel_rfl, rfl, rfl⟩
instance : HasF Tryz.prog 181 2 2 := ⟨_, _, 1, Tryz.underlying181, rfl, by kernel_rfl, rfl, rfl⟩
instance : HasF Tryz.prog 181 3 3 := ⟨_, _, 1, Tryz.underlying181, rfl, by kernel_rfl, rfl, rfl⟩
instance : HasF Tryz.prog 181 4 4 := ⟨_, _, 1, Tryz.underlying181, rfl, by kernel_rfl, rfl, rfl⟩
instance : HasF Tryz.prog 181 5 5 := ⟨_, _, 1, Tryz.underlying181, rfl, by kernel_rfl, rfl, rfl⟩
instance : HasF Tryz.prog 181 6 6 := ⟨_, _, 1, Tryz.underlying181, rfl, by kernel_rfl, rfl, rfl⟩
instance : HasS Tryz.prog 181 7 := ⟨by kernel_rfl⟩
instance : HasZ Tryz.prog 181 (.agg #[(.string ⟨#[]⟩), (.int .i64 0), (.int .i64 0), (.int .i64 0), (.int .i64 0), (.int .i64 0), (.int .i64 0)]) := ⟨by kernel_rfl⟩
instance : HasU Tryz.prog 183 (.struct (Al Tryz.prog 183)) := ⟨by kernel_rfl⟩
instance : HasF Tryz.prog 183 0 0 := ⟨_, _, 1, Tryz.underlying183, rfl, by kernel_rfl, rfl, rfl⟩
instance : HasF Tryz.prog 183 1 1 := ⟨_, _, 1, Tryz.underlying183, rfl, by kernel_rfl, rfl, rfl⟩
instance : HasF Tryz.prog 183 2 2 := ⟨_, _, 1, Tryz.underlying183, rfl, by kernel_rfl, rfl, rfl⟩
instance : HasS Tryz.prog 183 3 := ⟨by kernel_rfl⟩
instance : HasZ Tryz.prog 183 (.agg #[(.string ⟨#[]⟩), (.int .i64 0), (.int .i64 0)]) := ⟨by kernel_rfl⟩
instance : HasU Tryz.prog 191 (.struct (Al Tryz.prog 191)) := ⟨by kernel_rfl⟩
instance : HasF Tryz.prog 191 0 0 := ⟨_, _, 2, Tryz.underlying191, rfl, by kernel_rfl, rfl, rfl⟩
instance : HasL Tryz.prog 191 [(0, 2), (2, 2), (4, 2), (6, 2)] := ⟨_, Tryz.underlying191, fun w => by kernel_rfl⟩
instance : HasS Tryz.prog 191 8 := ⟨by kernel_rfl⟩
instance : HasB Tryz.prog 191 64 := ⟨by kernel_rfl⟩
instance : HasZ Tryz.prog 191 (.agg #[(.int .i64 0), (.int .i64 0), (.int .i64 0), (.int .i64 0), (.int .i64 0), (.int .i64 0), (.int .i64 0), (.int .i64 0)]) := ⟨by kernel_rfl⟩
instance : HasU Tryz.prog 208 (.struct (Al Tryz.prog 208)) := ⟨by kernel_rfl⟩
instance : HasF Tryz.prog 208 0 0 := ⟨_, _, 1, Tryz.underlying208, rfl, by kernel_rfl, rfl, rfl⟩
instance : HasF Tryz.prog 208 1 1 := ⟨_, _, 1, Tryz.underlying208, rfl, by kernel_rfl, rfl, rfl⟩
instance : HasL Tryz.prog 208 [(0, 1), (1, 1)] := ⟨_, Tryz.underlying208, fun w => by kernel_rfl⟩
instance : HasS Tryz.prog 208 2 := ⟨by kernel_rfl⟩
instance : HasZ Tryz.prog 208 (.agg #[(.int .u64 0), (.int .u64 0)]) := ⟨by kernel_rfl⟩
instance : HasU Tryz.prog 256 (.func #[107, 25] #[107] false) := ⟨Tryz.underlying256⟩
instance : HasS Tryz.prog 256 1 := ⟨by kernel_rfl⟩
instance : HasZ Tryz.prog 256 .nilFunc := ⟨by kernel_rfl⟩
instance : HasU Tryz.prog 291 (.slice 4) := ⟨Tryz.underlying291⟩
instance : HasU Tryz.prog 295 (.map 9 296) := ⟨Tryz.underlying295⟩
instance : HasL Tryz.prog 296 [] := ⟨_, Tryz.underlying296, fun w => by kernel_rfl⟩
instance : HasS Tryz.prog 296 0 := ⟨by kernel_rfl⟩
instance : HasZ Tryz.prog 296 (.agg #[]) := ⟨by kernel_rfl⟩
instance : HasU Tryz.prog 313 (.map 99 296) := ⟨Tryz.underlying313⟩
end Go.Proofs.YtlapbaiejnaeiaaGreatDoor
