/- Pe of the types of the program, as instances (printed by a program). No conditions. -/
import Derived.Test.YtbceahipbdmocaaGreatMa
import Derived.Test.YtbceahipbdmocaaGreatChecked
set_option linter.unusedSimpArgs false
set_option linter.unusedVariables false
namespace Go.Proofs.YtbceahipbdmocaaGreat
open Go Go.Proofs
instance : HasU Tryz.prog 2 (.int .i64) := ⟨Tryz.underlying2⟩
instance : HasU Tryz.prog 3 (.int .i64) := ⟨Tryz.underlying3⟩
instance : HasS Tryz.prog 3 1 := ⟨by kernel_rfl⟩
instance : HasB Tryz.prog 3 8 := ⟨by kernel_rfl⟩
instance : HasZ Tryz.prog 3 (.int .i64 0) := ⟨by kernel_rfl⟩
instance : HasU Tryz.prog 4 (.bool) := ⟨Tryz.underlying4⟩
instance : HasS Tryz.prog 4 1 := ⟨by kernel_rfl⟩
instance : HasB Tryz.prog 4 1 := ⟨by kernel_rfl⟩
instance : HasZ Tryz.prog 4 (.bool false) := ⟨by kernel_rfl⟩
instance : HasU Tryz.prog 9 (.string) := ⟨Tryz.underlying9⟩
instance : HasS Tryz.prog 9 1 := ⟨by kernel_rfl⟩
instance : HasU Tryz.prog 22 (.slice 53) := ⟨Tryz.underlying22⟩
instance : HasU Tryz.prog 23 (.slice 161) := ⟨Tryz.underlying23⟩
instance : HasU Tryz.prog 25 (.struct (Ar Tryz.prog 25)) := ⟨by kernel_rfl⟩
instance : HasF Tryz.prog 25 0 0 := ⟨_, _, 1, Tryz.underlying25, rfl, by kernel_rfl, rfl, rfl⟩
instance : HasF Tryz.prog 25 1 1 := ⟨_, _, 1, Tryz.underlying25, rfl, by kernel_rfl, rfl, rfl⟩
instance : HasF Tryz.prog 25 2 2 := ⟨_, _, 1, Tryz.underlying25, rfl, by kernel_rfl, rfl, rfl⟩
instance : HasF Tryz.prog 25 3 3 := ⟨_, _, 1, Tryz.underlying25, rfl, by kernel_rfl, rfl, rfl⟩
instance : HasL Tryz.prog 25 [(0, 1), (1, 1), (2, 1), (3, 1)] := ⟨_, Tryz.underlying25, fun w => by kernel_rfl⟩
instance : HasS Tryz.prog 25 4 := ⟨by kernel_rfl⟩
instance : HasZ Tryz.prog 25 (.agg #[(.string ⟨#[]⟩), (.int .i64 0), (.slice none 0 0), (.slice none 0 0)]) := ⟨by kernel_rfl⟩
instance : HasU Tryz.prog 26 (.slice 150) := ⟨Tryz.underlying26⟩
instance : HasU Tryz.prog 27 (.slice 56) := ⟨Tryz.underlying27⟩
instance : HasU Tryz.prog 29 (.struct (Ar Tryz.prog 29)) := ⟨by kernel_rfl⟩
instance : HasF Tryz.prog 29 0 0 := ⟨_, _, 1, Tryz.underlying29, rfl, by kernel_rfl, rfl, rfl⟩
instance : HasF Tryz.prog 29 1 1 := ⟨_, _, 1, Tryz.underlying29, rfl, by kernel_rfl, rfl, rfl⟩
instance : HasL Tryz.prog 29 [(0, 1), (1, 1)] := ⟨_, Tryz.underlying29, fun w => by kernel_rfl⟩
instance : HasS Tryz.prog 29 2 := ⟨by kernel_rfl⟩
instance : HasZ Tryz.prog 29 (.agg #[(.slice none 0 0), (.slice none 0 0)]) := ⟨by kernel_rfl⟩
instance : HasU Tryz.prog 30 (.slice 3) := ⟨Tryz.underlying30⟩
instance : HasS Tryz.prog 30 1 := ⟨by kernel_rfl⟩
instance : HasB Tryz.prog 30 24 := ⟨by kernel_rfl⟩
instance : HasZ Tryz.prog 30 (.slice none 0 0) := ⟨by kernel_rfl⟩
instance : HasU Tryz.prog 34 (.slice 44) := ⟨Tryz.underlying34⟩
instance : HasS Tryz.prog 34 1 := ⟨by kernel_rfl⟩
instance : HasZ Tryz.prog 34 (.slice none 0 0) := ⟨by kernel_rfl⟩
instance : HasU Tryz.prog 35 (.int .i64) := ⟨Tryz.underlying35⟩
instance : HasS Tryz.prog 35 1 := ⟨by kernel_rfl⟩
instance : HasZ Tryz.prog 35 (.int .i64 0) := ⟨by kernel_rfl⟩
instance : HasU Tryz.prog 42 (.struct (Ar Tryz.prog 42)) := ⟨by kernel_rfl⟩
instance : HasF Tryz.prog 42 0 0 := ⟨_, _, 1, Tryz.underlying42, rfl, by kernel_rfl, rfl, rfl⟩
instance : HasF Tryz.prog 42 1 1 := ⟨_, _, 1, Tryz.underlying42, rfl, by kernel_rfl, rfl, rfl⟩
instance : HasL Tryz.prog 42 [(0, 1), (1, 1)] := ⟨_, Tryz.underlying42, fun w => by kernel_rfl⟩
instance : HasS Tryz.prog 42 2 := ⟨by kernel_rfl⟩
instance : HasZ Tryz.prog 42 (.agg #[(.int .i64 0), (.int .i64 0)]) := ⟨by kernel_rfl⟩
instance : HasU Tryz.prog 44 (.struct (Ar Tryz.prog 44)) := ⟨by kernel_rfl⟩
instance : HasF Tryz.prog 44 0 0 := ⟨_, _, 1, Tryz.underlying44, rfl, by kernel_rfl, rfl, rfl⟩
instance : HasF Tryz.prog 44 1 1 := ⟨_, _, 1, Tryz.underlying44, rfl, by kernel_rfl, rfl, rfl⟩
instance : HasF Tryz.prog 44 2 2 := ⟨_, _, 2, Tryz.underlying44, rfl, by kernel_rfl, rfl, rfl⟩
instance : HasL Tryz.prog 44 [(0, 1), (1, 1), (2, 2)] := ⟨_, Tryz.underlying44, fun w => by kernel_rfl⟩
instance : HasS Tryz.prog 44 4 := ⟨by kernel_rfl⟩
instance : HasB Tryz.prog 44 48 := ⟨by kernel_rfl⟩
instance : HasZ Tryz.prog 44 (.agg #[(.string ⟨#[]⟩), (.string ⟨#[]⟩), (.int .i64 0), (.int .i64 0)]) := ⟨by kernel_rfl⟩
instance : HasU Tryz.prog 46 (.int .u32) := ⟨Tryz.underlying46⟩
instance : HasS Tryz.prog 46 1 := ⟨by kernel_rfl⟩
instance : HasB Tryz.prog 46 4 := ⟨by kernel_rfl⟩
instance : HasZ Tryz.prog 46 (.int .u32 0) := ⟨by kernel_rfl⟩
instance : HasU Tryz.prog 50 (.slice 157) := ⟨Tryz.underlying50⟩
instance : HasU Tryz.prog 51 (.slice 234) := ⟨Tryz.underlying51⟩
instance : HasU Tryz.prog 53 (.struct (Ar Tryz.prog 53)) := ⟨by kernel_rfl⟩
instance : HasF Tryz.prog 53 0 0 := ⟨_, _, 1, Tryz.underlying53, rfl, by kernel_rfl, rfl, rfl⟩
instance : HasF Tryz.prog 53 1 1 := ⟨_, _, 1, Tryz.underlying53, rfl, by kernel_rfl, rfl, rfl⟩
instance : HasF Tryz.prog 53 2 2 := ⟨_, _, 1, Tryz.underlying53, rfl, by kernel_rfl, rfl, rfl⟩
instance : HasF Tryz.prog 53 3 3 := ⟨_, _, 1, Tryz.underlying53, rfl, by kernel_rfl, rfl, rfl⟩
instance : HasF Tryz.prog 53 4 4 := ⟨_, _, 1, Tryz.underlying53, rfl, by kernel_rfl, rfl, rfl⟩
instance : HasF Tryz.prog 53 5 5 := ⟨_, _, 1, Tryz.underlying53, rfl, by kernel_rfl, rfl, rfl⟩
instance : HasF Tryz.prog 53 6 6 := ⟨_, _, 1, Tryz.underlying53, rfl, by kernel_rfl, rfl, rfl⟩
instance : HasF Tryz.prog 53 7 7 := ⟨_, _, 1, Tryz.underlying53, rfl, by kernel_rfl, rfl, rfl⟩
instance : HasF Tryz.prog 53 8 8 := ⟨_, _, 1, Tryz.underlying53, rfl, by kernel_rfl, rfl, rfl⟩
instance : HasF Tryz.prog 53 9 9 := ⟨_, _, 1, Tryz.underlying53, rfl, by kernel_rfl, rfl, rfl⟩
instance : HasF Tryz.prog 53 10 10 := ⟨_, _, 1, Tryz.underlying53, rfl, by kernel_rfl, rfl, rfl⟩
instance : HasF Tryz.prog 53 11 11 := ⟨_, _, 1, Tryz.underlying53, rfl, by kernel_rfl, rfl, rfl⟩
instance : HasF Tryz.prog 53 12 12 := ⟨_, _, 1, Tryz.underlying53, rfl, by kernel_rfl, rfl, rfl⟩
instance : HasL Tryz.prog 53 [(0, 1), (1, 1), (2, 1), (3, 1), (4, 1), (5, 1), (6, 1), (7, 1), (8, 1), (9, 1), (10, 1), (11, 1), (12, 1)] := ⟨_, Tryz.underlying53, fun w => by kernel_rfl⟩
instance : HasS Tryz.prog 53 13 := ⟨by kernel_rfl⟩
instance : HasB Tryz.prog 53 160 := ⟨by kernel_rfl⟩
instance : HasZ Tryz.prog 53 (.agg #[(.string ⟨#[]⟩), (.int .i64 0), (.int .i64 0), (.int .i64 0), (.int .i64 0), (.slice none 0 0), (.int .i64 0), (.int .i64 0), (.int .i64 0), (.int .i64 0), (.int .i64 0), (.slice none 0 0), (.slice none 0 0)]) := ⟨by kernel_rfl⟩
instance : HasU Tryz.prog 56 (.array 2 9) := ⟨Tryz.underlying56⟩
instance : HasS Tryz.prog 56 2 := ⟨by kernel_rfl⟩
instance : HasB Tryz.prog 56 32 := ⟨by kernel_rfl⟩
instance : HasZ Tryz.prog 56 (.agg #[(.string ⟨#[]⟩), (.string ⟨#[]⟩)]) := ⟨by kernel_rfl⟩
instance : HasU Tryz.prog 59 (.slice 65) := ⟨Tryz.underlying59⟩
instance : HasU Tryz.prog 65 (.struct (Ar Tryz.prog 65)) := ⟨by kernel_rfl⟩
instance : HasF Tryz.prog 65 0 0 := ⟨_, _, 1, Tryz.underlying65, rfl, by kernel_rfl, rfl, rfl⟩
instance : HasF Tryz.prog 65 1 1 := ⟨_, _, 1, Tryz.underlying65, rfl, by kernel_rfl, rfl, rfl⟩
instance : HasL Tryz.prog 65 [(0, 1), (1, 1)] := ⟨_, Tryz.underlying65, fun w => by kernel_rfl⟩
instance : HasS Tryz.prog 65 2 := ⟨by kernel_rfl⟩
instance : HasB Tryz.prog 65 16 := ⟨by kernel_rfl⟩
instance : HasZ Tryz.prog 65 (.agg #[(.int .i64 0), (.int .i64 0)]) := ⟨by kernel_rfl⟩
instance : HasU Tryz.prog 85 (.slice 91) := ⟨Tryz.underlying85⟩
instance : HasL Tryz.prog 91 [(0, 1), (1, 1)] := ⟨_, Tryz.underlying91, fun w => by kernel_rfl⟩
instance : HasS Tryz.prog 91 2 := ⟨by kernel_rfl⟩
instance : HasB Tryz.prog 91 24 := ⟨by kernel_rfl⟩
instance : HasZ Tryz.prog 91 (.agg #[(.string ⟨#[]⟩), (.int .i64 0)]) := ⟨by kernel_rfl⟩
instance : HasU Tryz.prog 92 (.slice 155) := ⟨Tryz.underlying92⟩
instance : HasU Tryz.prog 99 (.array 2 53) := ⟨Tryz.underlying99⟩
instance : HasU Tryz.prog 101 (.slice 188) := ⟨Tryz.underlying101⟩
instance : HasS Tryz.prog 101 1 := ⟨by kernel_rfl⟩
instance : HasZ Tryz.prog 101 (.slice none 0 0) := ⟨by kernel_rfl⟩
instance : HasU Tryz.prog 102 (.array 2 101) := ⟨Tryz.underlying102⟩
instance : HasU Tryz.prog 104 (.struct (Ar Tryz.prog 104)) := ⟨by kernel_rfl⟩
instance : HasF Tryz.prog 104 0 0 := ⟨_, _, 2, Tryz.underlying104, rfl, by kernel_rfl, rfl, rfl⟩
instance : HasF Tryz.prog 104 1 2 := ⟨_, _, 26, Tryz.underlying104, rfl, by kernel_rfl, rfl, rfl⟩
instance : HasF Tryz.prog 104 2 28 := ⟨_, _, 2, Tryz.underlying104, rfl, by kernel_rfl, rfl, rfl⟩
instance : HasL Tryz.prog 104 [(0, 2), (2, 26), (28, 2)] := ⟨_, Tryz.underlying104, fun w => by kernel_rfl⟩
instance : HasS Tryz.prog 104 30 := ⟨by kernel_rfl⟩
instance : HasZ Tryz.prog 104 (.agg #[(.string ⟨#[]⟩), (.string ⟨#[]⟩), (.string ⟨#[]⟩), (.int .i64 0), (.int .i64 0), (.int .i64 0), (.int .i64 0), (.slice none 0 0), (.int .i64 0), (.int .i64 0), (.int .i64 0), (.int .i64 0), (.int .i64 0), (.slice none 0 0), (.slice none 0 0), (.string ⟨#[]⟩), (.int .i64 0), (.int .i64 0), (.int .i64 0), (.int .i64 0), (.slice none 0 0), (.int .i64 0), (.int .i64 0), (.int .i64 0), (.int .i64 0), (.int .i64 0), (.slice none 0 0), (.slice none 0 0), (.slice none 0 0), (.slice none 0 0)]) := ⟨by kernel_rfl⟩
instance : HasU Tryz.prog 112 (.slice 30) := ⟨Tryz.underlying112⟩
instance : HasU Tryz.prog 114 (.struct (Ar Tryz.prog 114)) := ⟨by kernel_rfl⟩
instance : HasF Tryz.prog 114 0 0 := ⟨_, _, 1, Tryz.underlying114, rfl, by kernel_rfl, rfl, rfl⟩
instance : HasF Tryz.prog 114 1 1 := ⟨_, _, 1, Tryz.underlying114, rfl, by kernel_rfl, rfl, rfl⟩
instance : HasF Tryz.prog 114 2 2 := ⟨_, _, 1, Tryz.underlying114, rfl, by kernel_rfl, rfl, rfl⟩
instance : HasL Tryz.prog 114 [(0, 1), (1, 1), (2, 1)] := ⟨_, Tryz.underlying114, fun w => by kernel_rfl⟩
instance : HasS Tryz.prog 114 3 := ⟨by kernel_rfl⟩
instance : HasZ Tryz.prog 114 (.agg #[(.slice none 0 0), (.slice none 0 0), (.slice none 0 0)]) := ⟨by kernel_rfl⟩
instance : HasU Tryz.prog 148 (.slice 163) := ⟨Tryz.underlying148⟩
instance : HasU Tryz.prog 150 (.struct (Ar Tryz.prog 150)) := ⟨by kernel_rfl⟩
instance : HasF Tryz.prog 150 0 0 := ⟨_, _, 1, Tryz.underlying150, rfl, by kernel_rfl, rfl, rfl⟩
instance : HasF Tryz.prog 150 1 1 := ⟨_, _, 1, Tryz.underlying150, rfl, by kernel_rfl, rfl, rfl⟩
instance : HasF Tryz.prog 150 2 2 := ⟨_, _, 1, Tryz.underlying150, rfl, by kernel_rfl, rfl, rfl⟩
instance : HasF Tryz.prog 150 3 3 := ⟨_, _, 1, Tryz.underlying150, rfl, by kernel_rfl, rfl, rfl⟩
instance : HasF Tryz.prog 150 4 4 := ⟨_, _, 1, Tryz.underlying150, rfl, by kernel_rfl, rfl, rfl⟩
instance : HasF Tryz.prog 150 5 5 := ⟨_, _, 1, Tryz.underlying150, rfl, by kernel_rfl, rfl, rfl⟩
instance : HasF Tryz.prog 150 6 6 := ⟨_, _, 1, Tryz.underlying150, rfl, by kernel_rfl, rfl, rfl⟩
instance : HasS Tryz.prog 150 7 := ⟨by kernel_rfl⟩
instance : HasZ Tryz.prog 150 (.agg #[(.string ⟨#[]⟩), (.string ⟨#[]⟩), (.int .i64 0), (.int .i64 0), (.slice none 0 0), (.int .i64 0), (.int .i64 0)]) := ⟨by kernel_rfl⟩
instance : HasU Tryz.prog 157 (.struct (Ar Tryz.prog 157)) := ⟨by kernel_rfl⟩
instance : HasF Tryz.prog 157 0 0 := ⟨_, _, 1, Tryz.underlying157, rfl, by kernel_rfl, rfl, rfl⟩
instance : HasF Tryz.prog 157 1 1 := ⟨_, _, 1, Tryz.underlying157, rfl, by kernel_rfl, rfl, rfl⟩
instance : HasF Tryz.prog 157 2 2 := ⟨_, _, 1, Tryz.underlying157, rfl, by kernel_rfl, rfl, rfl⟩
instance : HasF Tryz.prog 157 3 3 := ⟨_, _, 1, Tryz.underlying157, rfl, by kernel_rfl, rfl, rfl⟩
instance : HasF Tryz.prog 157 4 4 := ⟨_, _, 1, Tryz.underlying157, rfl, by kernel_rfl, rfl, rfl⟩
instance : HasF Tryz.prog 157 5 5 := ⟨_, _, 1, Tryz.underlying157, rfl, by kernel_rfl, rfl, rfl⟩
instance : HasF Tryz.prog 157 6 6 := ⟨_, _, 1, Tryz.underlying157, rfl, by kernel_rfl, rfl, rfl⟩
instance : HasL Tryz.prog 157 [(0, 1), (1, 1), (2, 1), (3, 1), (4, 1), (5, 1), (6, 1)] := ⟨_, Tryz.underlying157, fun w => by kernel_rfl⟩
instance : HasS Tryz.prog 157 7 := ⟨by kernel_rfl⟩
instance : HasZ Tryz.prog 157 (.agg #[(.string ⟨#[]⟩), (.int .i64 0), (.int .i64 0), (.int .i64 0), (.int .i64 0), (.int .i64 0), (.int .i64 0)]) := ⟨by kernel_rfl⟩
instance : HasU Tryz.prog 161 (.struct (Ar Tryz.prog 161)) := ⟨by kernel_rfl⟩
instance : HasF Tryz.prog 161 0 0 := ⟨_, _, 1, Tryz.underlying161, rfl, by kernel_rfl, rfl, rfl⟩
instance : HasF Tryz.prog 161 1 1 := ⟨_, _, 1, Tryz.underlying161, rfl, by kernel_rfl, rfl, rfl⟩
instance : HasF Tryz.prog 161 2 2 := ⟨_, _, 1, Tryz.underlying161, rfl, by kernel_rfl, rfl, rfl⟩
instance : HasF Tryz.prog 161 3 3 := ⟨_, _, 1, Tryz.underlying161, rfl, by kernel_rfl, rfl, rfl⟩
instance : HasS Tryz.prog 161 4 := ⟨by kernel_rfl⟩
instance : HasZ Tryz.prog 161 (.agg #[(.string ⟨#[]⟩), (.int .i64 0), (.int .i64 0), (.int .i64 0)]) := ⟨by kernel_rfl⟩
instance : HasU Tryz.prog 163 (.struct (Ar Tryz.prog 163)) := ⟨by kernel_rfl⟩
instance : HasF Tryz.prog 163 0 0 := ⟨_, _, 1, Tryz.underlying163, rfl, by kernel_rfl, rfl, rfl⟩
instance : HasF Tryz.prog 163 1 1 := ⟨_, _, 1, Tryz.underlying163, rfl, by kernel_rfl, rfl, rfl⟩
instance : HasF Tryz.prog 163 2 2 := ⟨_, _, 1, Tryz.underlying163, rfl, by kernel_rfl, rfl, rfl⟩
instance : HasF Tryz.prog 163 3 3 := ⟨_, _, 1, Tryz.underlying163, rfl, by kernel_rfl, rfl, rfl⟩
instance : HasF Tryz.prog 163 4 4 := ⟨_, _, 1, Tryz.underlying163, rfl, by kernel_rfl, rfl, rfl⟩
instance : HasL Tryz.prog 163 [(0, 1), (1, 1), (2, 1), (3, 1), (4, 1)] := ⟨_, Tryz.underlying163, fun w => by kernel_rfl⟩
instance : HasS Tryz.prog 163 5 := ⟨by kernel_rfl⟩
instance : HasZ Tryz.prog 163 (.agg #[(.string ⟨#[]⟩), (.int .i64 0), (.int .i64 0), (.int .i64 0), (.int .i64 0)]) := ⟨by kernel_rfl⟩
instance : HasU Tryz.prog 173 (.struct (Ar Tryz.prog 173)) := ⟨by kernel_rfl⟩
instance : HasF Tryz.prog 173 0 0 := ⟨_, _, 1, Tryz.underlying173, rfl, by kernel_rfl, rfl, rfl⟩
instance : HasF Tryz.prog 173 1 1 := ⟨_, _, 1, Tryz.underlying173, rfl, by kernel_rfl, rfl, rfl⟩
instance : HasF Tryz.prog 173 2 2 := ⟨_, _, 1, Tryz.underlying173, rfl, by kernel_rfl, rfl, rfl⟩
instance : HasF Tryz.prog 173 3 3 := ⟨_, _, 1, Tryz.underlying173, rfl, by kernel_rfl, rfl, rfl⟩
instance : HasF Tryz.prog 173 4 4 := ⟨_, _, 1, Tryz.underlying173, rfl, by kernel_rfl, rfl, rfl⟩
instance : HasL Tryz.prog 173 [(0, 1), (1, 1), (2, 1), (3, 1), (4, 1)] := ⟨_, Tryz.underlying173, fun w => by kernel_rfl⟩
instance : HasS Tryz.prog 173 5 := ⟨by kernel_rfl⟩
instance : HasZ Tryz.prog 173 (.agg #[(.int .i64 0), (.int .i64 0), (.int .i64 0), (.int .i64 0), (.int .i64 0)]) := ⟨by kernel_rfl⟩
instance : HasU Tryz.prog 183 (.int .u64) := ⟨Tryz.underlying183⟩
instance : HasU Tryz.prog 188 (.struct (Ar Tryz.prog 188)) := ⟨by kernel_rfl⟩
instance : HasF Tryz.prog 188 0 0 := ⟨_, _, 2, Tryz.underlying188, rfl, by kernel_rfl, rfl, rfl⟩
instance : HasF Tryz.prog 188 1 2 := ⟨_, _, 2, Tryz.underlying188, rfl, by kernel_rfl, rfl, rfl⟩
instance : HasF Tryz.prog 188 2 4 := ⟨_, _, 2, Tryz.underlying188, rfl, by kernel_rfl, rfl, rfl⟩
instance : HasF Tryz.prog 188 3 6 := ⟨_, _, 2, Tryz.underlying188, rfl, by kernel_rfl, rfl, rfl⟩
instance : HasL Tryz.prog 188 [(0, 2), (2, 2), (4, 2), (6, 2)] := ⟨_, Tryz.underlying188, fun w => by kernel_rfl⟩
instance : HasS Tryz.prog 188 8 := ⟨by kernel_rfl⟩
instance : HasB Tryz.prog 188 64 := ⟨by kernel_rfl⟩
instance : HasZ Tryz.prog 188 (.agg #[(.int .i64 0), (.int .i64 0), (.int .i64 0), (.int .i64 0), (.int .i64 0), (.int .i64 0), (.int .i64 0), (.int .i64 0)]) := ⟨by kernel_rfl⟩
instance : HasF Tryz.prog 195 0 0 := ⟨_, _, 1, Tryz.underlying195, rfl, by kernel_rfl, rfl, rfl⟩
instance : HasL Tryz.prog 195 [(0, 1)] := ⟨_, Tryz.underlying195, fun w => by kernel_rfl⟩
instance : HasZ Tryz.prog 195 (.agg #[(.int .i64 0)]) := ⟨by kernel_rfl⟩
instance : HasU Tryz.prog 234 (.struct (Ar Tryz.prog 234)) := ⟨by kernel_rfl⟩
instance : HasF Tryz.prog 234 0 0 := ⟨_, _, 1, Tryz.underlying234, rfl, by kernel_rfl, rfl, rfl⟩
instance : HasF Tryz.prog 234 1 1 := ⟨_, _, 1, Tryz.underlying234, rfl, by kernel_rfl, rfl, rfl⟩
instance : HasF Tryz.prog 234 2 2 := ⟨_, _, 1, Tryz.underlying234, rfl, by kernel_rfl, rfl, rfl⟩
instance : HasS Tryz.prog 234 3 := ⟨by kernel_rfl⟩
instance : HasZ Tryz.prog 234 (.agg #[(.string ⟨#[]⟩), (.int .i64 0), (.int .i64 0)]) := ⟨by kernel_rfl⟩
instance : HasU Tryz.prog 237 (.slice 46) := ⟨Tryz.underlying237⟩
instance : HasU Tryz.prog 239 (.struct (Ar Tryz.prog 239)) := ⟨by kernel_rfl⟩
instance : HasF Tryz.prog 239 0 0 := ⟨_, _, 1, Tryz.underlying239, rfl, by kernel_rfl, rfl, rfl⟩
instance : HasF Tryz.prog 239 1 1 := ⟨_, _, 1, Tryz.underlying239, rfl, by kernel_rfl, rfl, rfl⟩
instance : HasL Tryz.prog 239 [(0, 1), (1, 1)] := ⟨_, Tryz.underlying239, fun w => by kernel_rfl⟩
instance : HasS Tryz.prog 239 2 := ⟨by kernel_rfl⟩
instance : HasZ Tryz.prog 239 (.agg #[(.bool false), (.slice none 0 0)]) := ⟨by kernel_rfl⟩
instance : HasU Tryz.prog 241 (.struct (Ar Tryz.prog 241)) := ⟨by kernel_rfl⟩
instance : HasF Tryz.prog 241 0 0 := ⟨_, _, 2, Tryz.underlying241, rfl, by kernel_rfl, rfl, rfl⟩
instance : HasF Tryz.prog 241 1 2 := ⟨_, _, 2, Tryz.underlying241, rfl, by kernel_rfl, rfl, rfl⟩
instance : HasL Tryz.prog 241 [(0, 2), (2, 2)] := ⟨_, Tryz.underlying241, fun w => by kernel_rfl⟩
instance : HasS Tryz.prog 241 4 := ⟨by kernel_rfl⟩
instance : HasZ Tryz.prog 241 (.agg #[(.bool false), (.slice none 0 0), (.bool false), (.slice none 0 0)]) := ⟨by kernel_rfl⟩
instance : HasU Tryz.prog 243 (.struct (Ar Tryz.prog 243)) := ⟨by kernel_rfl⟩
instance : HasF Tryz.prog 243 0 0 := ⟨_, _, 4, Tryz.underlying243, rfl, by kernel_rfl, rfl, rfl⟩
instance : HasF Tryz.prog 243 1 4 := ⟨_, _, 4, Tryz.underlying243, rfl, by kernel_rfl, rfl, rfl⟩
instance : HasF Tryz.prog 243 2 8 := ⟨_, _, 4, Tryz.underlying243, rfl, by kernel_rfl, rfl, rfl⟩
instance : HasF Tryz.prog 243 3 12 := ⟨_, _, 4, Tryz.underlying243, rfl, by kernel_rfl, rfl, rfl⟩
instance : HasL Tryz.prog 243 [(0, 4), (4, 4), (8, 4), (12, 4)] := ⟨_, Tryz.underlying243, fun w => by kernel_rfl⟩
instance : HasS Tryz.prog 243 16 := ⟨by kernel_rfl⟩
instance : HasZ Tryz.prog 243 (.agg #[(.bool false), (.slice none 0 0), (.bool false), (.slice none 0 0), (.bool false), (.slice none 0 0), (.bool false), (.slice none 0 0), (.bool false), (.slice none 0 0), (.bool false), (.slice none 0 0), (.bool false), (.slice none 0 0), (.bool false), (.slice none 0 0)]) := ⟨by kernel_rfl⟩
instance : HasU Tryz.prog 262 (.func #[65, 35] #[65] false) := ⟨Tryz.underlying262⟩
instance : HasS Tryz.prog 262 1 := ⟨by kernel_rfl⟩
instance : HasZ Tryz.prog 262 .nilFunc := ⟨by kernel_rfl⟩
instance : HasU Tryz.prog 319 (.slice 4) := ⟨Tryz.underlying319⟩
instance : HasU Tryz.prog 320 (.map 9 321) := ⟨Tryz.underlying320⟩
instance : HasL Tryz.prog 321 [] := ⟨_, Tryz.underlying321, fun w => by kernel_rfl⟩
instance : HasS Tryz.prog 321 0 := ⟨by kernel_rfl⟩
instance : HasZ Tryz.prog 321 (.agg #[]) := ⟨by kernel_rfl⟩
instance : HasU Tryz.prog 342 (.map 56 321) := ⟨Tryz.underlying342⟩
instance : HasU Tryz.prog 359 (.slice 101) := ⟨Tryz.underlying359⟩
end Go.Proofs.YtbceahipbdmocaaGreat
