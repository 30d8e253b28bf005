/- Facts of the types of the program, as instances (printed by a program). No conditions. -/
import Derived.Test.YtgegcgfdffmoeaaGreatMa
import Derived.Test.YtgegcgfdffmoeaaGreatChecked
namespace Go.Proofs.YtgegcgfdffmoeaaGreat
open Go Go.Proofs
instance : HasU Tryz.prog 2 (.int .i64) := ⟨Tryz.underlying2⟩
instance : HasU Tryz.prog 3 (.int .i64) := ⟨Tryz.underlying3⟩
instance : HasU Tryz.prog 4 (.bool) := ⟨Tryz.underlying4⟩
instance : HasS Tryz.prog 4 1 := ⟨by kernel_rfl⟩
instance : HasZ Tryz.prog 4 (.bool false) := ⟨by kernel_rfl⟩
instance : HasU Tryz.prog 23 (.slice 59) := ⟨Tryz.underlying23⟩
instance : HasS Tryz.prog 23 1 := ⟨by kernel_rfl⟩
instance : HasZ Tryz.prog 23 (.slice none 0 0) := ⟨by kernel_rfl⟩
instance : HasU Tryz.prog 25 (.struct (structFields Tryz.prog 25)) := ⟨by kernel_rfl⟩
instance : HasF Tryz.prog 25 0 0 := ⟨_, _, 1, Tryz.underlying25, rfl, by kernel_rfl, rfl, rfl⟩
instance : HasF Tryz.prog 25 1 1 := ⟨_, _, 1, Tryz.underlying25, rfl, by kernel_rfl, rfl, rfl⟩
instance : HasL Tryz.prog 25 [(0, 1), (1, 1)] := ⟨_, Tryz.underlying25, fun w => by kernel_rfl⟩
instance : HasS Tryz.prog 25 2 := ⟨by kernel_rfl⟩
instance : HasB Tryz.prog 25 16 := ⟨by kernel_rfl⟩
instance : HasZ Tryz.prog 25 (.agg #[(.int .i64 0), (.int .i64 0)]) := ⟨by kernel_rfl⟩
instance : HasU Tryz.prog 28 (.int .i64) := ⟨Tryz.underlying28⟩
instance : HasS Tryz.prog 28 1 := ⟨by kernel_rfl⟩
instance : HasU Tryz.prog 32 (.struct (structFields Tryz.prog 32)) := ⟨by kernel_rfl⟩
instance : HasL Tryz.prog 32 [(0, 1), (1, 1)] := ⟨_, Tryz.underlying32, fun w => by kernel_rfl⟩
instance : HasS Tryz.prog 32 2 := ⟨by kernel_rfl⟩
instance : HasZ Tryz.prog 32 (.agg #[(.int .i64 0), (.int .i64 0)]) := ⟨by kernel_rfl⟩
instance : HasU Tryz.prog 53 (.slice 4) := ⟨Tryz.underlying53⟩
instance : HasU Tryz.prog 59 (.struct (structFields Tryz.prog 59)) := ⟨by kernel_rfl⟩
instance : HasF Tryz.prog 59 0 0 := ⟨_, _, 2, Tryz.underlying59, rfl, by kernel_rfl, rfl, rfl⟩
instance : HasF Tryz.prog 59 1 2 := ⟨_, _, 2, Tryz.underlying59, rfl, by kernel_rfl, rfl, rfl⟩
instance : HasF Tryz.prog 59 2 4 := ⟨_, _, 2, Tryz.underlying59, rfl, by kernel_rfl, rfl, rfl⟩
instance : HasF Tryz.prog 59 3 6 := ⟨_, _, 2, Tryz.underlying59, rfl, by kernel_rfl, rfl, rfl⟩
instance : HasL Tryz.prog 59 [(0, 2), (2, 2), (4, 2), (6, 2)] := ⟨_, Tryz.underlying59, fun w => by kernel_rfl⟩
instance : HasS Tryz.prog 59 8 := ⟨by kernel_rfl⟩
instance : HasB Tryz.prog 59 64 := ⟨by kernel_rfl⟩
instance : HasZ Tryz.prog 59 (.agg #[(.int .i64 0), (.int .i64 0), (.int .i64 0), (.int .i64 0), (.int .i64 0), (.int .i64 0), (.int .i64 0), (.int .i64 0)]) := ⟨by kernel_rfl⟩
instance : HasF Tryz.prog 64 0 0 := ⟨_, _, 1, Tryz.underlying64, rfl, by kernel_rfl, rfl, rfl⟩
instance : HasL Tryz.prog 64 [(0, 1)] := ⟨_, Tryz.underlying64, fun w => by kernel_rfl⟩
instance : HasZ Tryz.prog 64 (.agg #[(.int .i64 0)]) := ⟨by kernel_rfl⟩
instance : HasU Tryz.prog 71 (.slice 148) := ⟨Tryz.underlying71⟩
instance : HasU Tryz.prog 73 (.struct (structFields Tryz.prog 73)) := ⟨by kernel_rfl⟩
instance : HasF Tryz.prog 73 0 0 := ⟨_, _, 1, Tryz.underlying73, rfl, by kernel_rfl, rfl, rfl⟩
instance : HasF Tryz.prog 73 1 1 := ⟨_, _, 1, Tryz.underlying73, rfl, by kernel_rfl, rfl, rfl⟩
instance : HasL Tryz.prog 73 [(0, 1), (1, 1)] := ⟨_, Tryz.underlying73, fun w => by kernel_rfl⟩
instance : HasS Tryz.prog 73 2 := ⟨by kernel_rfl⟩
instance : HasZ Tryz.prog 73 (.agg #[(.bool false), (.slice none 0 0)]) := ⟨by kernel_rfl⟩
instance : HasU Tryz.prog 75 (.struct (structFields Tryz.prog 75)) := ⟨by kernel_rfl⟩
instance : HasF Tryz.prog 75 0 0 := ⟨_, _, 2, Tryz.underlying75, rfl, by kernel_rfl, rfl, rfl⟩
instance : HasF Tryz.prog 75 1 2 := ⟨_, _, 2, Tryz.underlying75, rfl, by kernel_rfl, rfl, rfl⟩
instance : HasL Tryz.prog 75 [(0, 2), (2, 2)] := ⟨_, Tryz.underlying75, fun w => by kernel_rfl⟩
instance : HasS Tryz.prog 75 4 := ⟨by kernel_rfl⟩
instance : HasZ Tryz.prog 75 (.agg #[(.bool false), (.slice none 0 0), (.bool false), (.slice none 0 0)]) := ⟨by kernel_rfl⟩
instance : HasU Tryz.prog 77 (.struct (structFields Tryz.prog 77)) := ⟨by kernel_rfl⟩
instance : HasF Tryz.prog 77 0 0 := ⟨_, _, 4, Tryz.underlying77, rfl, by kernel_rfl, rfl, rfl⟩
instance : HasF Tryz.prog 77 1 4 := ⟨_, _, 4, Tryz.underlying77, rfl, by kernel_rfl, rfl, rfl⟩
instance : HasF Tryz.prog 77 2 8 := ⟨_, _, 4, Tryz.underlying77, rfl, by kernel_rfl, rfl, rfl⟩
instance : HasF Tryz.prog 77 3 12 := ⟨_, _, 4, Tryz.underlying77, rfl, by kernel_rfl, rfl, rfl⟩
instance : HasL Tryz.prog 77 [(0, 4), (4, 4), (8, 4), (12, 4)] := ⟨_, Tryz.underlying77, fun w => by kernel_rfl⟩
instance : HasS Tryz.prog 77 16 := ⟨by kernel_rfl⟩
instance : HasZ Tryz.prog 77 (.agg #[(.bool false), (.slice none 0 0), (.bool false), (.slice none 0 0), (.bool false), (.slice none 0 0), (.bool false), (.slice none 0 0), (.bool false), (.slice none 0 0), (.bool false), (.slice none 0 0), (.bool false), (.slice none 0 0), (.bool false), (.slice none 0 0)]) := ⟨by kernel_rfl⟩
instance : HasU Tryz.prog 86 (.slice 25) := ⟨Tryz.underlying86⟩
instance : HasU Tryz.prog 87 (.int .u64) := ⟨Tryz.underlying87⟩
instance : HasU Tryz.prog 148 (.int .u32) := ⟨Tryz.underlying148⟩
instance : HasS Tryz.prog 148 1 := ⟨by kernel_rfl⟩
instance : HasB Tryz.prog 148 4 := ⟨by kernel_rfl⟩
instance : HasZ Tryz.prog 148 (.int .u32 0) := ⟨by kernel_rfl⟩
instance : HasU Tryz.prog 155 (.slice 23) := ⟨Tryz.underlying155⟩
end Go.Proofs.YtgegcgfdffmoeaaGreat
