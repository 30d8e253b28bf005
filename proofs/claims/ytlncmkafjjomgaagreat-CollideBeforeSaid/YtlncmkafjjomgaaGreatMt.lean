/- Facts of the types of the program, as instances (printed by a program). No conditions. -/
import Derived.Test.YtlncmkafjjomgaaGreatMa
import Derived.Test.YtlncmkafjjomgaaGreatChecked
namespace Go.Proofs.YtlncmkafjjomgaaGreat
open Go Go.Proofs
instance : HasU Tryz.prog 2 (.int .i64) := ⟨Tryz.underlying2⟩
instance : HasU Tryz.prog 3 (.int .i64) := ⟨Tryz.underlying3⟩
instance : HasS Tryz.prog 3 1 := ⟨by kernel_rfl⟩
instance : HasZ Tryz.prog 3 (.int .i64 0) := ⟨by kernel_rfl⟩
instance : HasU Tryz.prog 4 (.bool) := ⟨Tryz.underlying4⟩
instance : HasU Tryz.prog 9 (.string) := ⟨Tryz.underlying9⟩
instance : HasS Tryz.prog 9 1 := ⟨by kernel_rfl⟩
instance : HasU Tryz.prog 22 (.slice 3) := ⟨Tryz.underlying22⟩
instance : HasU Tryz.prog 23 (.slice 114) := ⟨Tryz.underlying23⟩
instance : HasS Tryz.prog 23 1 := ⟨by kernel_rfl⟩
instance : HasU Tryz.prog 24 (.slice 144) := ⟨Tryz.underlying24⟩
instance : HasU Tryz.prog 26 (.struct (structFields Tryz.prog 26)) := ⟨by kernel_rfl⟩
instance : HasF Tryz.prog 26 0 0 := ⟨_, _, 1, Tryz.underlying26, rfl, by kernel_rfl, rfl, rfl⟩
instance : HasF Tryz.prog 26 1 1 := ⟨_, _, 1, Tryz.underlying26, rfl, by kernel_rfl, rfl, rfl⟩
instance : HasF Tryz.prog 26 2 2 := ⟨_, _, 1, Tryz.underlying26, rfl, by kernel_rfl, rfl, rfl⟩
instance : HasF Tryz.prog 26 3 3 := ⟨_, _, 1, Tryz.underlying26, rfl, by kernel_rfl, rfl, rfl⟩
instance : HasF Tryz.prog 26 4 4 := ⟨_, _, 1, Tryz.underlying26, rfl, by kernel_rfl, rfl, rfl⟩
instance : HasF Tryz.prog 26 5 5 := ⟨_, _, 1, Tryz.underlying26, rfl, by kernel_rfl, rfl, rfl⟩
instance : HasF Tryz.prog 26 6 6 := ⟨_, _, 1, Tryz.underlying26, rfl, by kernel_rfl, rfl, rfl⟩
instance : HasF Tryz.prog 26 7 7 := ⟨_, _, 1, Tryz.underlying26, rfl, by kernel_rfl, rfl, rfl⟩
instance : HasF Tryz.prog 26 8 8 := ⟨_, _, 1, Tryz.underlying26, rfl, by kernel_rfl, rfl, rfl⟩
instance : HasF Tryz.prog 26 9 9 := ⟨_, _, 1, Tryz.underlying26, rfl, by kernel_rfl, rfl, rfl⟩
instance : HasF Tryz.prog 26 10 10 := ⟨_, _, 1, Tryz.underlying26, rfl, by kernel_rfl, rfl, rfl⟩
instance : HasF Tryz.prog 26 11 11 := ⟨_, _, 1, Tryz.underlying26, rfl, by kernel_rfl, rfl, rfl⟩
instance : HasF Tryz.prog 26 12 12 := ⟨_, _, 1, Tryz.underlying26, rfl, by kernel_rfl, rfl, rfl⟩
instance : HasL Tryz.prog 26 [(0, 1), (1, 1), (2, 1), (3, 1), (4, 1), (5, 1), (6, 1), (7, 1), (8, 1), (9, 1), (10, 1), (11, 1), (12, 1)] := ⟨_, Tryz.underlying26, fun w => by kernel_rfl⟩
instance : HasS Tryz.prog 26 13 := ⟨by kernel_rfl⟩
instance : HasZ Tryz.prog 26 (.agg #[(.string ⟨#[]⟩), (.int .i64 0), (.int .i64 0), (.int .i64 0), (.int .i64 0), (.slice none 0 0), (.int .i64 0), (.int .i64 0), (.int .i64 0), (.int .i64 0), (.int .i64 0), (.slice none 0 0), (.slice none 0 0)]) := ⟨by kernel_rfl⟩
instance : HasU Tryz.prog 28 (.slice 94) := ⟨Tryz.underlying28⟩
instance : HasS Tryz.prog 28 1 := ⟨by kernel_rfl⟩
instance : HasZ Tryz.prog 28 (.slice none 0 0) := ⟨by kernel_rfl⟩
instance : HasU Tryz.prog 30 (.struct (structFields Tryz.prog 30)) := ⟨by kernel_rfl⟩
instance : HasF Tryz.prog 30 0 0 := ⟨_, _, 1, Tryz.underlying30, rfl, by kernel_rfl, rfl, rfl⟩
instance : HasF Tryz.prog 30 1 1 := ⟨_, _, 1, Tryz.underlying30, rfl, by kernel_rfl, rfl, rfl⟩
instance : HasL Tryz.prog 30 [(0, 1), (1, 1)] := ⟨_, Tryz.underlying30, fun w => by kernel_rfl⟩
instance : HasS Tryz.prog 30 2 := ⟨by kernel_rfl⟩
instance : HasB Tryz.prog 30 16 := ⟨by kernel_rfl⟩
instance : HasZ Tryz.prog 30 (.agg #[(.int .i64 0), (.int .i64 0)]) := ⟨by kernel_rfl⟩
instance : HasU Tryz.prog 31 (.int .u16) := ⟨Tryz.underlying31⟩
instance : HasU Tryz.prog 35 (.struct (structFields Tryz.prog 35)) := ⟨by kernel_rfl⟩
instance : HasF Tryz.prog 35 0 0 := ⟨_, _, 1, Tryz.underlying35, rfl, by kernel_rfl, rfl, rfl⟩
instance : HasL Tryz.prog 35 [(0, 1), (1, 1)] := ⟨_, Tryz.underlying35, fun w => by kernel_rfl⟩
instance : HasS Tryz.prog 35 2 := ⟨by kernel_rfl⟩
instance : HasZ Tryz.prog 35 (.agg #[(.int .i64 0), (.int .i64 0)]) := ⟨by kernel_rfl⟩
instance : HasU Tryz.prog 36 (.int .i64) := ⟨Tryz.underlying36⟩
instance : HasS Tryz.prog 36 1 := ⟨by kernel_rfl⟩
instance : HasU Tryz.prog 44 (.slice 30) := ⟨Tryz.underlying44⟩
instance : HasU Tryz.prog 76 (.int .u64) := ⟨Tryz.underlying76⟩
instance : HasF Tryz.prog 91 0 0 := ⟨_, _, 1, Tryz.underlying91, rfl, by kernel_rfl, rfl, rfl⟩
instance : HasL Tryz.prog 91 [(0, 1)] := ⟨_, Tryz.underlying91, fun w => by kernel_rfl⟩
instance : HasZ Tryz.prog 91 (.agg #[(.int .i64 0)]) := ⟨by kernel_rfl⟩
instance : HasU Tryz.prog 94 (.struct (structFields Tryz.prog 94)) := ⟨by kernel_rfl⟩
instance : HasF Tryz.prog 94 0 0 := ⟨_, _, 2, Tryz.underlying94, rfl, by kernel_rfl, rfl, rfl⟩
instance : HasF Tryz.prog 94 1 2 := ⟨_, _, 2, Tryz.underlying94, rfl, by kernel_rfl, rfl, rfl⟩
instance : HasF Tryz.prog 94 2 4 := ⟨_, _, 2, Tryz.underlying94, rfl, by kernel_rfl, rfl, rfl⟩
instance : HasF Tryz.prog 94 3 6 := ⟨_, _, 2, Tryz.underlying94, rfl, by kernel_rfl, rfl, rfl⟩
instance : HasL Tryz.prog 94 [(0, 2), (2, 2), (4, 2), (6, 2)] := ⟨_, Tryz.underlying94, fun w => by kernel_rfl⟩
instance : HasS Tryz.prog 94 8 := ⟨by kernel_rfl⟩
instance : HasB Tryz.prog 94 64 := ⟨by kernel_rfl⟩
instance : HasZ Tryz.prog 94 (.agg #[(.int .i64 0), (.int .i64 0), (.int .i64 0), (.int .i64 0), (.int .i64 0), (.int .i64 0), (.int .i64 0), (.int .i64 0)]) := ⟨by kernel_rfl⟩
instance : HasU Tryz.prog 110 (.struct (structFields Tryz.prog 110)) := ⟨by kernel_rfl⟩
instance : HasF Tryz.prog 110 0 0 := ⟨_, _, 1, Tryz.underlying110, rfl, by kernel_rfl, rfl, rfl⟩
instance : HasF Tryz.prog 110 1 1 := ⟨_, _, 1, Tryz.underlying110, rfl, by kernel_rfl, rfl, rfl⟩
instance : HasF Tryz.prog 110 2 2 := ⟨_, _, 1, Tryz.underlying110, rfl, by kernel_rfl, rfl, rfl⟩
instance : HasF Tryz.prog 110 3 3 := ⟨_, _, 1, Tryz.underlying110, rfl, by kernel_rfl, rfl, rfl⟩
instance : HasF Tryz.prog 110 4 4 := ⟨_, _, 1, Tryz.underlying110, rfl, by kernel_rfl, rfl, rfl⟩
instance : HasL Tryz.prog 110 [(0, 1), (1, 1), (2, 1), (3, 1), (4, 1)] := ⟨_, Tryz.underlying110, fun w => by kernel_rfl⟩
instance : HasS Tryz.prog 110 5 := ⟨by kernel_rfl⟩
instance : HasZ Tryz.prog 110 (.agg #[(.int .i64 0), (.int .i64 0), (.int .i64 0), (.int .i64 0), (.int .i64 0)]) := ⟨by kernel_rfl⟩
instance : HasU Tryz.prog 114 (.struct (structFields Tryz.prog 114)) := ⟨by kernel_rfl⟩
instance : HasF Tryz.prog 114 0 0 := ⟨_, _, 1, Tryz.underlying114, rfl, by kernel_rfl, rfl, rfl⟩
instance : HasF Tryz.prog 114 1 1 := ⟨_, _, 1, Tryz.underlying114, rfl, by kernel_rfl, rfl, rfl⟩
instance : HasF Tryz.prog 114 2 2 := ⟨_, _, 1, Tryz.underlying114, rfl, by kernel_rfl, rfl, rfl⟩
instance : HasF Tryz.prog 114 3 3 := ⟨_, _, 1, Tryz.underlying114, rfl, by kernel_rfl, rfl, rfl⟩
instance : HasF Tryz.prog 114 4 4 := ⟨_, _, 1, Tryz.underlying114, rfl, by kernel_rfl, rfl, rfl⟩
instance : HasF Tryz.prog 114 5 5 := ⟨_, _, 1, Tryz.underlying114, rfl, by kernel_rfl, rfl, rfl⟩
instance : HasF Tryz.prog 114 6 6 := ⟨_, _, 1, Tryz.underlying114, rfl, by kernel_rfl, rfl, rfl⟩
instance : HasL Tryz.prog 114 [(0, 1), (1, 1), (2, 1), (3, 1), (4, 1), (5, 1), (6, 1)] := ⟨_, Tryz.underlying114, fun w => by kernel_rfl⟩
instance : HasS Tryz.prog 114 7 := ⟨by kernel_rfl⟩
instance : HasZ Tryz.prog 114 (.agg #[(.string ⟨#[]⟩), (.int .i64 0), (.int .i64 0), (.int .i64 0), (.int .i64 0), (.int .i64 0), (.int .i64 0)]) := ⟨by kernel_rfl⟩
instance : HasU Tryz.prog 116 (.slice 28) := ⟨Tryz.underlying116⟩
instance : HasU Tryz.prog 120 (.slice 181) := ⟨Tryz.underlying120⟩
instance : HasU Tryz.prog 122 (.struct (structFields Tryz.prog 122)) := ⟨by kernel_rfl⟩
instance : HasF Tryz.prog 122 0 0 := ⟨_, _, 1, Tryz.underlying122, rfl, by kernel_rfl, rfl, rfl⟩
instance : HasF Tryz.prog 122 1 1 := ⟨_, _, 1, Tryz.underlying122, rfl, by kernel_rfl, rfl, rfl⟩
instance : HasL Tryz.prog 122 [(0, 1), (1, 1)] := ⟨_, Tryz.underlying122, fun w => by kernel_rfl⟩
instance : HasS Tryz.prog 122 2 := ⟨by kernel_rfl⟩
instance : HasZ Tryz.prog 122 (.agg #[(.bool false), (.slice none 0 0)]) := ⟨by kernel_rfl⟩
instance : HasU Tryz.prog 124 (.struct (structFields Tryz.prog 124)) := ⟨by kernel_rfl⟩
instance : HasF Tryz.prog 124 0 0 := ⟨_, _, 2, Tryz.underlying124, rfl, by kernel_rfl, rfl, rfl⟩
instance : HasF Tryz.prog 124 1 2 := ⟨_, _, 2, Tryz.underlying124, rfl, by kernel_rfl, rfl, rfl⟩
instance : HasL Tryz.prog 124 [(0, 2), (2, 2)] := ⟨_, Tryz.underlying124, fun w => by kernel_rfl⟩
instance : HasS Tryz.prog 124 4 := ⟨by kernel_rfl⟩
instance : HasZ Tryz.prog 124 (.agg #[(.bool false), (.slice none 0 0), (.bool false), (.slice none 0 0)]) := ⟨by kernel_rfl⟩
instance : HasU Tryz.prog 126 (.struct (structFields Tryz.prog 126)) := ⟨by kernel_rfl⟩
instance : HasF Tryz.prog 126 0 0 := ⟨_, _, 4, Tryz.underlying126, rfl, by kernel_rfl, rfl, rfl⟩
instance : HasF Tryz.prog 126 1 4 := ⟨_, _, 4, Tryz.underlying126, rfl, by kernel_rfl, rfl, rfl⟩
instance : HasF Tryz.prog 126 2 8 := ⟨_, _, 4, Tryz.underlying126, rfl, by kernel_rfl, rfl, rfl⟩
instance : HasF Tryz.prog 126 3 12 := ⟨_, _, 4, Tryz.underlying126, rfl, by kernel_rfl, rfl, rfl⟩
instance : HasL Tryz.prog 126 [(0, 4), (4, 4), (8, 4), (12, 4)] := ⟨_, Tryz.underlying126, fun w => by kernel_rfl⟩
instance : HasS Tryz.prog 126 16 := ⟨by kernel_rfl⟩
instance : HasZ Tryz.prog 126 (.agg #[(.bool false), (.slice none 0 0), (.bool false), (.slice none 0 0), (.bool false), (.slice none 0 0), (.bool false), (.slice none 0 0), (.bool false), (.slice none 0 0), (.bool false), (.slice none 0 0), (.bool false), (.slice none 0 0), (.bool false), (.slice none 0 0)]) := ⟨by kernel_rfl⟩
instance : HasU Tryz.prog 144 (.struct (structFields Tryz.prog 144)) := ⟨by kernel_rfl⟩
instance : HasF Tryz.prog 144 0 0 := ⟨_, _, 1, Tryz.underlying144, rfl, by kernel_rfl, rfl, rfl⟩
instance : HasF Tryz.prog 144 1 1 := ⟨_, _, 1, Tryz.underlying144, rfl, by kernel_rfl, rfl, rfl⟩
instance : HasF Tryz.prog 144 2 2 := ⟨_, _, 1, Tryz.underlying144, rfl, by kernel_rfl, rfl, rfl⟩
instance : HasS Tryz.prog 144 3 := ⟨by kernel_rfl⟩
instance : HasZ Tryz.prog 144 (.agg #[(.string ⟨#[]⟩), (.int .i64 0), (.int .i64 0)]) := ⟨by kernel_rfl⟩
instance : HasU Tryz.prog 181 (.int .u32) := ⟨Tryz.underlying181⟩
instance : HasS Tryz.prog 181 1 := ⟨by kernel_rfl⟩
instance : HasB Tryz.prog 181 4 := ⟨by kernel_rfl⟩
instance : HasZ Tryz.prog 181 (.int .u32 0) := ⟨by kernel_rfl⟩
instance : HasU Tryz.prog 184 (.map 9 185) := ⟨Tryz.underlying184⟩
instance : HasL Tryz.prog 185 [] := ⟨_, Tryz.underlying185, fun w => by kernel_rfl⟩
instance : HasZ Tryz.prog 185 (.agg #[]) := ⟨by kernel_rfl⟩
end Go.Proofs.YtlncmkafjjomgaaGreat
