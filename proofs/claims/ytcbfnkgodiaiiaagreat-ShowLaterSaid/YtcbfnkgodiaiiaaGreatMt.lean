/- Qg of the types of the program, as instances (printed by a program). No conditions. -/
import Derived.Test.YtcbfnkgodiaiiaaGreatMa
import Derived.Test.YtcbfnkgodiaiiaaGreatChecked
set_option linter.unusedSimpArgs false
set_option linter.unusedVariables false
namespace Go.Proofs.YtcbfnkgodiaiiaaGreat
open Go Go.Proofs
instance : HasU Tryz.prog 2 (.int .i64) := ⟨Tryz.underlying2⟩
instance : HasU Tryz.prog 3 (.int .i64) := ⟨Tryz.underlying3⟩
instance : HasS Tryz.prog 3 1 := ⟨by kernel_rfl⟩
instance : HasB Tryz.prog 3 8 := ⟨by kernel_rfl⟩
instance : HasZ Tryz.prog 3 (.int .i64 0) := ⟨by kernel_rfl⟩
instance : HasU Tryz.prog 4 (.bool) := ⟨Tryz.underlying4⟩
instance : HasS Tryz.prog 4 1 := ⟨by kernel_rfl⟩
instance : HasB Tryz.prog 4 1 := ⟨by kernel_rfl⟩
instance : HasZ Tryz.prog 4 (.bool false) := ⟨by kernel_rfl⟩
instance : HasU Tryz.prog 9 (.string) := ⟨Tryz.underlying9⟩
instance : HasS Tryz.prog 9 1 := ⟨by kernel_rfl⟩
instance : HasU Tryz.prog 22 (.slice 73) := ⟨Tryz.underlying22⟩
instance : HasU Tryz.prog 23 (.slice 121) := ⟨Tryz.underlying23⟩
instance : HasU Tryz.prog 25 (.struct (Aq Tryz.prog 25)) := ⟨by kernel_rfl⟩
instance : HasF Tryz.prog 25 0 0 := ⟨_, _, 1, Tryz.underlying25, rfl, by kernel_rfl, rfl, rfl⟩
instance : HasF Tryz.prog 25 1 1 := ⟨_, _, 1, Tryz.underlying25, rfl, by kernel_rfl, rfl, rfl⟩
instance : HasF Tryz.prog 25 2 2 := ⟨_, _, 1, Tryz.underlying25, rfl, by kernel_rfl, rfl, rfl⟩
instance : HasF Tryz.prog 25 3 3 := ⟨_, _, 1, Tryz.underlying25, rfl, by kernel_rfl, rfl, rfl⟩
instance : HasL Tryz.prog 25 [(0, 1), (1, 1), (2, 1), (3, 1)] := ⟨_, Tryz.underlying25, fun w => by kernel_rfl⟩
instance : HasS Tryz.prog 25 4 := ⟨by kernel_rfl⟩
instance : HasZ Tryz.prog 25 (.agg #[(.string ⟨#[]⟩), (.int .i64 0), (.slice none 0 0), (.slice none 0 0)]) := ⟨by kernel_rfl⟩
instance : HasU Tryz.prog 26 (.slice 124) := ⟨Tryz.underlying26⟩
instance : HasU Tryz.prog 27 (.slice 69) := ⟨Tryz.underlying27⟩
instance : HasU Tryz.prog 29 (.struct (Aq Tryz.prog 29)) := ⟨by kernel_rfl⟩
instance : HasF Tryz.prog 29 0 0 := ⟨_, _, 1, Tryz.underlying29, rfl, by kernel_rfl, rfl, rfl⟩
instance : HasF Tryz.prog 29 1 1 := ⟨_, _, 1, Tryz.underlying29, rfl, by kernel_rfl, rfl, rfl⟩
instance : HasL Tryz.prog 29 [(0, 1), (1, 1)] := ⟨_, Tryz.underlying29, fun w => by kernel_rfl⟩
instance : HasS Tryz.prog 29 2 := ⟨by kernel_rfl⟩
instance : HasZ Tryz.prog 29 (.agg #[(.slice none 0 0), (.slice none 0 0)]) := ⟨by kernel_rfl⟩
instance : HasU Tryz.prog 30 (.slice 3) := ⟨Tryz.underlying30⟩
instance : HasS Tryz.prog 30 1 := ⟨by kernel_rfl⟩
instance : HasB Tryz.prog 30 24 := ⟨by kernel_rfl⟩
instance : HasZ Tryz.prog 30 (.slice none 0 0) := ⟨by kernel_rfl⟩
instance : HasU Tryz.prog 31 (.int .u16) := ⟨Tryz.underlying31⟩
instance : HasU Tryz.prog 34 (.slice 44) := ⟨Tryz.underlying34⟩
instance : HasS Tryz.prog 34 1 := ⟨by kernel_rfl⟩
instance : HasZ Tryz.prog 34 (.slice none 0 0) := ⟨by kernel_rfl⟩
instance : HasU Tryz.prog 35 (.int .i64) := ⟨Tryz.underlying35⟩
instance : HasS Tryz.prog 35 1 := ⟨by kernel_rfl⟩
instance : HasZ Tryz.prog 35 (.int .i64 0) := ⟨by kernel_rfl⟩
instance : HasU Tryz.prog 42 (.struct (Aq Tryz.prog 42)) := ⟨by kernel_rfl⟩
instance : HasF Tryz.prog 42 0 0 := ⟨_, _, 1, Tryz.underlying42, rfl, by kernel_rfl, rfl, rfl⟩
instance : HasF Tryz.prog 42 1 1 := ⟨_, _, 1, Tryz.underlying42, rfl, by kernel_rfl, rfl, rfl⟩
instance : HasL Tryz.prog 42 [(0, 1), (1, 1)] := ⟨_, Tryz.underlying42, fun w => by kernel_rfl⟩
instance : HasS Tryz.prog 42 2 := ⟨by kernel_rfl⟩
instance : HasZ Tryz.prog 42 (.agg #[(.int .i64 0), (.int .i64 0)]) := ⟨by kernel_rfl⟩
instance : HasU Tryz.prog 44 (.struct (Aq Tryz.prog 44)) := ⟨by kernel_rfl⟩
instance : HasF Tryz.prog 44 0 0 := ⟨_, _, 1, Tryz.underlying44, rfl, by kernel_rfl, rfl, rfl⟩
instance : HasF Tryz.prog 44 1 1 := ⟨_, _, 1, Tryz.underlying44, rfl, by kernel_rfl, rfl, rfl⟩
instance : HasF Tryz.prog 44 2 2 := ⟨_, _, 2, Tryz.underlying44, rfl, by kernel_rfl, rfl, rfl⟩
instance : HasL Tryz.prog 44 [(0, 1), (1, 1), (2, 2)] := ⟨_, Tryz.underlying44, fun w => by kernel_rfl⟩
instance : HasS Tryz.prog 44 4 := ⟨by kernel_rfl⟩
instance : HasB Tryz.prog 44 48 := ⟨by kernel_rfl⟩
instance : HasZ Tryz.prog 44 (.agg #[(.string ⟨#[]⟩), (.string ⟨#[]⟩), (.int .i64 0), (.int .i64 0)]) := ⟨by kernel_rfl⟩
instance : HasU Tryz.prog 58 (.struct (Aq Tryz.prog 58)) := ⟨by kernel_rfl⟩
instance : HasF Tryz.prog 58 0 0 := ⟨_, _, 1, Tryz.underlying58, rfl, by kernel_rfl, rfl, rfl⟩
instance : HasF Tryz.prog 58 1 1 := ⟨_, _, 1, Tryz.underlying58, rfl, by kernel_rfl, rfl, rfl⟩
instance : HasL Tryz.prog 58 [(0, 1), (1, 1)] := ⟨_, Tryz.underlying58, fun w => by kernel_rfl⟩
instance : HasS Tryz.prog 58 2 := ⟨by kernel_rfl⟩
instance : HasB Tryz.prog 58 16 := ⟨by kernel_rfl⟩
instance : HasZ Tryz.prog 58 (.agg #[(.int .i64 0), (.int .i64 0)]) := ⟨by kernel_rfl⟩
instance : HasU Tryz.prog 69 (.array 2 9) := ⟨Tryz.underlying69⟩
instance : HasS Tryz.prog 69 2 := ⟨by kernel_rfl⟩
instance : HasB Tryz.prog 69 32 := ⟨by kernel_rfl⟩
instance : HasZ Tryz.prog 69 (.agg #[(.string ⟨#[]⟩), (.string ⟨#[]⟩)]) := ⟨by kernel_rfl⟩
instance : HasU Tryz.prog 70 (.slice 117) := ⟨Tryz.underlying70⟩
instance : HasU Tryz.prog 71 (.slice 178) := ⟨Tryz.underlying71⟩
instance : HasU Tryz.prog 73 (.struct (Aq Tryz.prog 73)) := ⟨by kernel_rfl⟩
instance : HasF Tryz.prog 73 0 0 := ⟨_, _, 1, Tryz.underlying73, rfl, by kernel_rfl, rfl, rfl⟩
instance : HasF Tryz.prog 73 1 1 := ⟨_, _, 1, Tryz.underlying73, rfl, by kernel_rfl, rfl, rfl⟩
instance : HasF Tryz.prog 73 2 2 := ⟨_, _, 1, Tryz.underlying73, rfl, by kernel_rfl, rfl, rfl⟩
instance : HasF Tryz.prog 73 3 3 := ⟨_, _, 1, Tryz.underlying73, rfl, by kernel_rfl, rfl, rfl⟩
instance : HasF Tryz.prog 73 4 4 := ⟨_, _, 1, Tryz.underlying73, rfl, by kernel_rfl, rfl, rfl⟩
instance : HasF Tryz.prog 73 5 5 := ⟨_, _, 1, Tryz.underlying73, rfl, by kernel_rfl, rfl, rfl⟩
instance : HasF Tryz.prog 73 6 6 := ⟨_, _, 1, Tryz.underlying73, rfl, by kernel_rfl, rfl, rfl⟩
instance : HasF Tryz.prog 73 7 7 := ⟨_, _, 1, Tryz.underlying73, rfl, by kernel_rfl, rfl, rfl⟩
instance : HasF Tryz.prog 73 8 8 := ⟨_, _, 1, Tryz.underlying73, rfl, by kernel_rfl, rfl, rfl⟩
instance : HasF Tryz.prog 73 9 9 := ⟨_, _, 1, Tryz.underlying73, rfl, by kernel_rfl, rfl, rfl⟩
instance : HasF Tryz.prog 73 10 10 := ⟨_, _, 1, Tryz.underlying73, rfl, by kernel_rfl, rfl, rfl⟩
instance : HasF Tryz.prog 73 11 11 := ⟨_, _, 1, Tryz.underlying73, rfl, by kernel_rfl, rfl, rfl⟩
instance : HasF Tryz.prog 73 12 12 := ⟨_, _, 1, Tryz.underlying73, rfl, by kernel_rfl, rfl, rfl⟩
instance : HasL Tryz.prog 73 [(0, 1), (1, 1), (2, 1), (3, 1), (4, 1), (5, 1), (6, 1), (7, 1), (8, 1), (9, 1), (10, 1), (11, 1), (12, 1)] := ⟨_, Tryz.underlying73, fun w => by kernel_rfl⟩
instance : HasS Tryz.prog 73 13 := ⟨by kernel_rfl⟩
instance : HasB Tryz.prog 73 160 := ⟨by kernel_rfl⟩
instance : HasZ Tryz.prog 73 (.agg #[(.string ⟨#[]⟩), (.int .i64 0), (.int .i64 0), (.int .i64 0), (.int .i64 0), (.slice none 0 0), (.int .i64 0), (.int .i64 0), (.int .i64 0), (.int .i64 0), (.int .i64 0), (.slice none 0 0), (.slice none 0 0)]) := ⟨by kernel_rfl⟩
instance : HasU Tryz.prog 74 (.array 2 73) := ⟨Tryz.underlying74⟩
instance : HasU Tryz.prog 76 (.slice 195) := ⟨Tryz.underlying76⟩
instance : HasS Tryz.prog 76 1 := ⟨by kernel_rfl⟩
instance : HasZ Tryz.prog 76 (.slice none 0 0) := ⟨by kernel_rfl⟩
instance : HasU Tryz.prog 77 (.array 2 76) := ⟨Tryz.underlying77⟩
instance : HasU Tryz.prog 79 (.struct (Aq Tryz.prog 79)) := ⟨by kernel_rfl⟩
instance : HasF Tryz.prog 79 0 0 := ⟨_, _, 2, Tryz.underlying79, rfl, by kernel_rfl, rfl, rfl⟩
instance : HasF Tryz.prog 79 1 2 := ⟨_, _, 26, Tryz.underlying79, rfl, by kernel_rfl, rfl, rfl⟩
instance : HasF Tryz.prog 79 2 28 := ⟨_, _, 2, Tryz.underlying79, rfl, by kernel_rfl, rfl, rfl⟩
instance : HasL Tryz.prog 79 [(0, 2), (2, 26), (28, 2)] := ⟨_, Tryz.underlying79, fun w => by kernel_rfl⟩
instance : HasS Tryz.prog 79 30 := ⟨by kernel_rfl⟩
instance : HasZ Tryz.prog 79 (.agg #[(.string ⟨#[]⟩), (.string ⟨#[]⟩), (.string ⟨#[]⟩), (.int .i64 0), (.int .i64 0), (.int .i64 0), (.int .i64 0), (.slice none 0 0), (.int .i64 0), (.int .i64 0), (.int .i64 0), (.int .i64 0), (.int .i64 0), (.slice none 0 0), (.slice none 0 0), (.string ⟨#[]⟩), (.int .i64 0), (.int .i64 0), (.int .i64 0), (.int .i64 0), (.slice none 0 0), (.int .i64 0), (.int .i64 0), (.int .i64 0), (.int .i64 0), (.int .i64 0), (.slice none 0 0), (.slice none 0 0), (.slice none 0 0), (.slice none 0 0)]) := ⟨by kernel_rfl⟩
instance : HasU Tryz.prog 100 (.slice 104) := ⟨Tryz.underlying100⟩
instance : HasL Tryz.prog 104 [(0, 1), (1, 1)] := ⟨_, Tryz.underlying104, fun w => by kernel_rfl⟩
instance : HasS Tryz.prog 104 2 := ⟨by kernel_rfl⟩
instance : HasB Tryz.prog 104 24 := ⟨by kernel_rfl⟩
instance : HasZ Tryz.prog 104 (.agg #[(.string ⟨#[]⟩), (.int .i64 0)]) := ⟨by kernel_rfl⟩
instance : HasU Tryz.prog 105 (.slice 163) := ⟨Tryz.underlying105⟩
instance : HasU Tryz.prog 117 (.struct (Aq Tryz.prog 117)) := ⟨by kernel_rfl⟩
instance : HasF Tryz.prog 117 0 0 := ⟨_, _, 1, Tryz.underlying117, rfl, by kernel_rfl, rfl, rfl⟩
instance : HasF Tryz.prog 117 1 1 := ⟨_, _, 1, Tryz.underlying117, rfl, by kernel_rfl, rfl, rfl⟩
instance : HasF Tryz.prog 117 2 2 := ⟨_, _, 1, Tryz.underlying117, rfl, by kernel_rfl, rfl, rfl⟩
instance : HasF Tryz.prog 117 3 3 := ⟨_, _, 1, Tryz.underlying117, rfl, by kernel_rfl, rfl, rfl⟩
instance : HasF Tryz.prog 117 4 4 := ⟨_, _, 1, Tryz.underlying117, rfl, by kernel_rfl, rfl, rfl⟩
instance : HasF Tryz.prog 117 5 5 := ⟨_, _, 1, Tryz.underlying117, rfl, by kernel_rfl, rfl, rfl⟩
instance : HasF Tryz.prog 117 6 6 := ⟨_, _, 1, Tryz.underlying117, rfl, by kernel_rfl, rfl, rfl⟩
instance : HasL Tryz.prog 117 [(0, 1), (1, 1), (2, 1), (3, 1), (4, 1), (5, 1), (6, 1)] := ⟨_, Tryz.underlying117, fun w => by kernel_rfl⟩
instance : HasS Tryz.prog 117 7 := ⟨by kernel_rfl⟩
instance : HasZ Tryz.prog 117 (.agg #[(.string ⟨#[]⟩), (.int .i64 0), (.int .i64 0), (.int .i64 0), (.int .i64 0), (.int .i64 0), (.int .i64 0)]) := ⟨by kernel_rfl⟩
instance : HasU Tryz.prog 121 (.struct (Aq Tryz.prog 121)) := ⟨by kernel_rfl⟩
instance : HasF Tryz.prog 121 0 0 := ⟨_, _, 1, Tryz.underlying121, rfl, by kernel_rfl, rfl, rfl⟩
instance : HasF Tryz.prog 121 1 1 := ⟨_, _, 1, Tryz.underlying121, rfl, by kernel_rfl, rfl, rfl⟩
instance : HasF Tryz.prog 121 2 2 := ⟨_, _, 1, Tryz.underlying121, rfl, by kernel_rfl, rfl, rfl⟩
instance : HasF Tryz.prog 121 3 3 := ⟨_, _, 1, Tryz.underlying121, rfl, by kernel_rfl, rfl, rfl⟩
instance : HasS Tryz.prog 121 4 := ⟨by kernel_rfl⟩
instance : HasZ Tryz.prog 121 (.agg #[(.string ⟨#[]⟩), (.int .i64 0), (.int .i64 0), (.int .i64 0)]) := ⟨by kernel_rfl⟩
instance : HasU Tryz.prog 122 (.slice 126) := ⟨Tryz.underlying122⟩
instance : HasU Tryz.prog 124 (.struct (Aq Tryz.prog 124)) := ⟨by kernel_rfl⟩
instance : HasF Tryz.prog 124 0 0 := ⟨_, _, 1, Tryz.underlying124, rfl, by kernel_rfl, rfl, rfl⟩
instance : HasF Tryz.prog 124 1 1 := ⟨_, _, 1, Tryz.underlying124, rfl, by kernel_rfl, rfl, rfl⟩
instance : HasF Tryz.prog 124 2 2 := ⟨_, _, 1, Tryz.underlying124, rfl, by kernel_rfl, rfl, rfl⟩
instance : HasF Tryz.prog 124 3 3 := ⟨_, _, 1, Tryz.underlying124, rfl, by kernel_rfl, rfl, rfl⟩
instance : HasF Tryz.prog 124 4 4 := ⟨_, _, 1, Tryz.underlying124, rfl, by kernel_rfl, rfl, rfl⟩
instance : HasF Tryz.prog 124 5 5 := ⟨_, _, 1, Tryz.underlying124, rfl, by kernel_rfl, rfl, rfl⟩
instance : HasF Tryz.prog 124 6 6 := ⟨_, _, 1, Tryz.underlying124, rfl, by kernel_rfl, rfl, rfl⟩
instance : HasS Tryz.prog 124 7 := ⟨by kernel_rfl⟩
instance : HasZ Tryz.prog 124 (.agg #[(.string ⟨#[]⟩), (.string ⟨#[]⟩), (.int .i64 0), (.int .i64 0), (.slice none 0 0), (.int .i64 0), (.int .i64 0)]) := ⟨by kernel_rfl⟩
instance : HasU Tryz.prog 126 (.struct (Aq Tryz.prog 126)) := ⟨by kernel_rfl⟩
instance : HasF Tryz.prog 126 0 0 := ⟨_, _, 1, Tryz.underlying126, rfl, by kernel_rfl, rfl, rfl⟩
instance : HasF Tryz.prog 126 1 1 := ⟨_, _, 1, Tryz.underlying126, rfl, by kernel_rfl, rfl, rfl⟩
instance : HasF Tryz.prog 126 2 2 := ⟨_, _, 1, Tryz.underlying126, rfl, by kernel_rfl, rfl, rfl⟩
instance : HasF Tryz.prog 126 3 3 := ⟨_, _, 1, Tryz.underlying126, rfl, by kernel_rfl, rfl, rfl⟩
instance : HasF Tryz.prog 126 4 4 := ⟨_, _, 1, Tryz.underlying126, rfl, by kernel_rfl, rfl, rfl⟩
instance : HasL Tryz.prog 126 [(0, 1), (1, 1), (2, 1), (3, 1), (4, 1)] := ⟨_, Tryz.underlying126, fun w => by kernel_rfl⟩
instance : HasS Tryz.prog 126 5 := ⟨by kernel_rfl⟩
instance : HasZ Tryz.prog 126 (.agg #[(.string ⟨#[]⟩), (.int .i64 0), (.int .i64 0), (.int .i64 0), (.int .i64 0)]) := ⟨by kernel_rfl⟩
instance : HasU Tryz.prog 138 (.slice 30) := ⟨Tryz.underlying138⟩
instance : HasU Tryz.prog 140 (.struct (Aq Tryz.prog 140)) := ⟨by kernel_rfl⟩
instance : HasF Tryz.prog 140 0 0 := ⟨_, _, 1, Tryz.underlying140, rfl, by kernel_rfl, rfl, rfl⟩
instance : HasF Tryz.prog 140 1 1 := ⟨_, _, 1, Tryz.underlying140, rfl, by kernel_rfl, rfl, rfl⟩
instance : HasF Tryz.prog 140 2 2 := ⟨_, _, 1, Tryz.underlying140, rfl, by kernel_rfl, rfl, rfl⟩
instance : HasL Tryz.prog 140 [(0, 1), (1, 1), (2, 1)] := ⟨_, Tryz.underlying140, fun w => by kernel_rfl⟩
instance : HasS Tryz.prog 140 3 := ⟨by kernel_rfl⟩
instance : HasZ Tryz.prog 140 (.agg #[(.slice none 0 0), (.slice none 0 0), (.slice none 0 0)]) := ⟨by kernel_rfl⟩
instance : HasU Tryz.prog 145 (.int .u64) := ⟨Tryz.underlying145⟩
instance : HasU Tryz.prog 167 (.struct (Aq Tryz.prog 167)) := ⟨by kernel_rfl⟩
instance : HasF Tryz.prog 167 0 0 := ⟨_, _, 1, Tryz.underlying167, rfl, by kernel_rfl, rfl, rfl⟩
instance : HasF Tryz.prog 167 1 1 := ⟨_, _, 1, Tryz.underlying167, rfl, by kernel_rfl, rfl, rfl⟩
instance : HasL Tryz.prog 167 [(0, 1), (1, 1)] := ⟨_, Tryz.underlying167, fun w => by kernel_rfl⟩
instance : HasS Tryz.prog 167 2 := ⟨by kernel_rfl⟩
instance : HasZ Tryz.prog 167 (.agg #[(.int .u64 0), (.int .u64 0)]) := ⟨by kernel_rfl⟩
instance : HasU Tryz.prog 178 (.struct (Aq Tryz.prog 178)) := ⟨by kernel_rfl⟩
instance : HasF Tryz.prog 178 0 0 := ⟨_, _, 1, Tryz.underlying178, rfl, by kernel_rfl, rfl, rfl⟩
instance : HasF Tryz.prog 178 1 1 := ⟨_, _, 1, Tryz.underlying178, rfl, by kernel_rfl, rfl, rfl⟩
instance : HasF Tryz.prog 178 2 2 := ⟨_, _, 1, Tryz.underlying178, rfl, by kernel_rfl, rfl, rfl⟩
instance : HasS Tryz.prog 178 3 := ⟨by kernel_rfl⟩
instance : HasZ Tryz.prog 178 (.agg #[(.string ⟨#[]⟩), (.int .i64 0), (.int .i64 0)]) := ⟨by kernel_rfl⟩
instance : HasU Tryz.prog 189 (.struct (Aq Tryz.prog 189)) := ⟨by kernel_rfl⟩
instance : HasF Tryz.prog 189 0 0 := ⟨_, _, 1, Tryz.underlying189, rfl, by kernel_rfl, rfl, rfl⟩
instance : HasF Tryz.prog 189 1 1 := ⟨_, _, 1, Tryz.underlying189, rfl, by kernel_rfl, rfl, rfl⟩
instance : HasF Tryz.prog 189 2 2 := ⟨_, _, 1, Tryz.underlying189, rfl, by kernel_rfl, rfl, rfl⟩
instance : HasF Tryz.prog 189 3 3 := ⟨_, _, 1, Tryz.underlying189, rfl, by kernel_rfl, rfl, rfl⟩
instance : HasF Tryz.prog 189 4 4 := ⟨_, _, 1, Tryz.underlying189, rfl, by kernel_rfl, rfl, rfl⟩
instance : HasL Tryz.prog 189 [(0, 1), (1, 1), (2, 1), (3, 1), (4, 1)] := ⟨_, Tryz.underlying189, fun w => by kernel_rfl⟩
instance : HasS Tryz.prog 189 5 := ⟨by kernel_rfl⟩
instance : HasZ Tryz.prog 189 (.agg #[(.int .i64 0), (.int .i64 0), (.int .i64 0), (.int .i64 0), (.int .i64 0)]) := ⟨by kernel_rfl⟩
instance : HasU Tryz.prog 195 (.struct (Aq Tryz.prog 195)) := ⟨by kernel_rfl⟩
instance : HasF Tryz.prog 195 0 0 := ⟨_, _, 2, Tryz.underlying195, rfl, by kernel_rfl, rfl, rfl⟩
instance : HasF Tryz.prog 195 1 2 := ⟨_, _, 2, Tryz.underlying195, rfl, by kernel_rfl, rfl, rfl⟩
instance : HasF Tryz.prog 195 2 4 := ⟨_, _, 2, Tryz.underlying195, rfl, by kernel_rfl, rfl, rfl⟩
instance : HasF Tryz.prog 195 3 6 := ⟨_, _, 2, Tryz.underlying195, rfl, by kernel_rfl, rfl, rfl⟩
instance : HasL Tryz.prog 195 [(0, 2), (2, 2), (4, 2), (6, 2)] := ⟨_, Tryz.underlying195, fun w => by kernel_rfl⟩
instance : HasS Tryz.prog 195 8 := ⟨by kernel_rfl⟩
instance : HasB Tryz.prog 195 64 := ⟨by kernel_rfl⟩
instance : HasZ Tryz.prog 195 (.agg #[(.int .i64 0), (.int .i64 0), (.int .i64 0), (.int .i64 0), (.int .i64 0), (.int .i64 0), (.int .i64 0), (.int .i64 0)]) := ⟨by kernel_rfl⟩
instance : HasU Tryz.prog 197 (.slice 324) := ⟨Tryz.underlying197⟩
instance : HasU Tryz.prog 199 (.struct (Aq Tryz.prog 199)) := ⟨by kernel_rfl⟩
instance : HasF Tryz.prog 199 0 0 := ⟨_, _, 1, Tryz.underlying199, rfl, by kernel_rfl, rfl, rfl⟩
instance : HasF Tryz.prog 199 1 1 := ⟨_, _, 1, Tryz.underlying199, rfl, by kernel_rfl, rfl, rfl⟩
instance : HasL Tryz.prog 199 [(0, 1), (1, 1)] := ⟨_, Tryz.underlying199, fun w => by kernel_rfl⟩
instance : HasS Tryz.prog 199 2 := ⟨by kernel_rfl⟩
instance : HasZ Tryz.prog 199 (.agg #[(.bool false), (.slice none 0 0)]) := ⟨by kernel_rfl⟩
instance : HasU Tryz.prog 201 (.struct (Aq Tryz.prog 201)) := ⟨by kernel_rfl⟩
instance : HasF Tryz.prog 201 0 0 := ⟨_, _, 2, Tryz.underlying201, rfl, by kernel_rfl, rfl, rfl⟩
instance : HasF Tryz.prog 201 1 2 := ⟨_, _, 2, Tryz.underlying201, rfl, by kernel_rfl, rfl, rfl⟩
instance : HasL Tryz.prog 201 [(0, 2), (2, 2)] := ⟨_, Tryz.underlying201, fun w => by kernel_rfl⟩
instance : HasS Tryz.prog 201 4 := ⟨by kernel_rfl⟩
instance : HasZ Tryz.prog 201 (.agg #[(.bool false), (.slice none 0 0), (.bool false), (.slice none 0 0)]) := ⟨by kernel_rfl⟩
instance : HasU Tryz.prog 203 (.struct (Aq Tryz.prog 203)) := ⟨by kernel_rfl⟩
instance : HasF Tryz.prog 203 0 0 := ⟨_, _, 4, Tryz.underlying203, rfl, by kernel_rfl, rfl, rfl⟩
instance : HasF Tryz.prog 203 1 4 := ⟨_, _, 4, Tryz.underlying203, rfl, by kernel_rfl, rfl, rfl⟩
instance : HasF Tryz.prog 203 2 8 := ⟨_, _, 4, Tryz.underlying203, rfl, by kernel_rfl, rfl, rfl⟩
instance : HasF Tryz.prog 203 3 12 := ⟨_, _, 4, Tryz.underlying203, rfl, by kernel_rfl, rfl, rfl⟩
instance : HasL Tryz.prog 203 [(0, 4), (4, 4), (8, 4), (12, 4)] := ⟨_, Tryz.underlying203, fun w => by kernel_rfl⟩
instance : HasS Tryz.prog 203 16 := ⟨by kernel_rfl⟩
instance : HasZ Tryz.prog 203 (.agg #[(.bool false), (.slice none 0 0), (.bool false), (.slice none 0 0), (.bool false), (.slice none 0 0), (.bool false), (.slice none 0 0), (.bool false), (.slice none 0 0), (.bool false), (.slice none 0 0), (.bool false), (.slice none 0 0), (.bool false), (.slice none 0 0)]) := ⟨by kernel_rfl⟩
instance : HasF Tryz.prog 247 0 0 := ⟨_, _, 1, Tryz.underlying247, rfl, by kernel_rfl, rfl, rfl⟩
instance : HasL Tryz.prog 247 [(0, 1)] := ⟨_, Tryz.underlying247, fun w => by kernel_rfl⟩
instance : HasZ Tryz.prog 247 (.agg #[(.int .i64 0)]) := ⟨by kernel_rfl⟩
instance : HasU Tryz.prog 251 (.func #[58, 35] #[58] false) := ⟨Tryz.underlying251⟩
instance : HasS Tryz.prog 251 1 := ⟨by kernel_rfl⟩
instance : HasZ Tryz.prog 251 .nilFunc := ⟨by kernel_rfl⟩
instance : HasU Tryz.prog 289 (.slice 58) := ⟨Tryz.underlying289⟩
instance : HasU Tryz.prog 300 (.slice 4) := ⟨Tryz.underlying300⟩
instance : HasU Tryz.prog 324 (.int .u32) := ⟨Tryz.underlying324⟩
instance : HasS Tryz.prog 324 1 := ⟨by kernel_rfl⟩
instance : HasB Tryz.prog 324 4 := ⟨by kernel_rfl⟩
instance : HasZ Tryz.prog 324 (.int .u32 0) := ⟨by kernel_rfl⟩
instance : HasU Tryz.prog 335 (.map 9 336) := ⟨Tryz.underlying335⟩
instance : HasL Tryz.prog 336 [] := ⟨_, Tryz.underlying336, fun w => by kernel_rfl⟩
instance : HasS Tryz.prog 336 0 := ⟨by kernel_rfl⟩
instance : HasZ Tryz.prog 336 (.agg #[]) := ⟨by kernel_rfl⟩
instance : HasU Tryz.prog 348 (.map 69 336) := ⟨Tryz.underlying348⟩
instance : HasU Tryz.prog 351 (.slice 76) := ⟨Tryz.underlying351⟩
end Go.Proofs.YtcbfnkgodiaiiaaGreat
