/- Gw of the types of the program, as instances (printed by a program). No conditions. -/
import Derived.Test.YtcfjofhapbkmfaaGreatDoorMa
import Derived.Test.YtcfjofhapbkmfaaGreatDoorChecked
set_option linter.unusedSimpArgs false
set_option linter.unusedVariables false
namespace Go.Proofs.YtcfjofhapbkmfaaGreatDoor
open Go Go.Proofs
instance : HasU Tryz.prog 3 (.int .i64) := ⟨Tryz.underlying3⟩
instance : HasS Tryz.prog 3 1 := ⟨by kernel_rfl⟩
instance : HasB Tryz.prog 3 8 := ⟨by kernel_rfl⟩
instance : HasZ Tryz.prog 3 (.int .i64 0) := ⟨by kernel_rfl⟩
instance : HasU Tryz.prog 4 (.bool) := ⟨Tryz.underlying4⟩
instance : HasZ Tryz.prog 4 (.bool false) := ⟨by kernel_rfl⟩
instance : HasU Tryz.prog 9 (.string) := ⟨Tryz.underlying9⟩
instance : HasZ Tryz.prog 9 (.string ⟨#[]⟩) := ⟨by kernel_rfl⟩
instance : HasS Tryz.prog 20 1 := ⟨by kernel_rfl⟩
instance : HasZ Tryz.prog 20 .nilIface := ⟨by kernel_rfl⟩
instance : HasU Tryz.prog 21 (.int .i32) := ⟨Tryz.underlying21⟩
instance : HasU Tryz.prog 22 (.slice 34) := ⟨Tryz.underlying22⟩
instance : HasU Tryz.prog 23 (.slice 37) := ⟨Tryz.underlying23⟩
instance : HasU Tryz.prog 25 (.struct (Ay Tryz.prog 25)) := ⟨by kernel_rfl⟩
instance : HasF Tryz.prog 25 0 0 := ⟨_, _, 1, Tryz.underlying25, rfl, by kernel_rfl, rfl, rfl⟩
instance : HasF Tryz.prog 25 1 1 := ⟨_, _, 1, Tryz.underlying25, rfl, by kernel_rfl, rfl, rfl⟩
instance : HasL Tryz.prog 25 [(0, 1), (1, 1)] := ⟨_, Tryz.underlying25, fun w => by kernel_rfl⟩
instance : HasS Tryz.prog 25 2 := ⟨by kernel_rfl⟩
instance : HasZ Tryz.prog 25 (.agg #[(.slice none 0 0), (.slice none 0 0)]) := ⟨by kernel_rfl⟩
instance : HasU Tryz.prog 28 (.int .i64) := ⟨Tryz.underlying28⟩
instance : HasS Tryz.prog 28 1 := ⟨by kernel_rfl⟩
instance : HasZ Tryz.prog 28 (.int .i64 0) := ⟨by kernel_rfl⟩
instance : HasU Tryz.prog 34 (.struct (Ay Tryz.prog 34)) := ⟨by kernel_rfl⟩
instance : HasF Tryz.prog 34 0 0 := ⟨_, _, 1, Tryz.underlying34, rfl, by kernel_rfl, rfl, rfl⟩
instance : HasF Tryz.prog 34 1 1 := ⟨_, _, 1, Tryz.underlying34, rfl, by kernel_rfl, rfl, rfl⟩
instance : HasL Tryz.prog 34 [(0, 1), (1, 1)] := ⟨_, Tryz.underlying34, fun w => by kernel_rfl⟩
instance : HasS Tryz.prog 34 2 := ⟨by kernel_rfl⟩
instance : HasZ Tryz.prog 34 (.agg #[(.string ⟨#[]⟩), (.int .i64 0)]) := ⟨by kernel_rfl⟩
instance : HasU Tryz.prog 35 (.slice 42) := ⟨Tryz.underlying35⟩
instance : HasU Tryz.prog 37 (.struct (Ay Tryz.prog 37)) := ⟨by kernel_rfl⟩
instance : HasF Tryz.prog 37 0 0 := ⟨_, _, 1, Tryz.underlying37, rfl, by kernel_rfl, rfl, rfl⟩
instance : HasF Tryz.prog 37 1 1 := ⟨_, _, 1, Tryz.underlying37, rfl, by kernel_rfl, rfl, rfl⟩
instance : HasF Tryz.prog 37 2 2 := ⟨_, _, 1, Tryz.underlying37, rfl, by kernel_rfl, rfl, rfl⟩
instance : HasL Tryz.prog 37 [(0, 1), (1, 1), (2, 1)] := ⟨_, Tryz.underlying37, fun w => by kernel_rfl⟩
instance : HasS Tryz.prog 37 3 := ⟨by kernel_rfl⟩
instance : HasZ Tryz.prog 37 (.agg #[(.string ⟨#[]⟩), (.slice none 0 0), (.bool false)]) := ⟨by kernel_rfl⟩
instance : HasU Tryz.prog 40 (.struct (Ay Tryz.prog 40)) := ⟨by kernel_rfl⟩
instance : HasF Tryz.prog 40 0 0 := ⟨_, _, 1, Tryz.underlying40, rfl, by kernel_rfl, rfl, rfl⟩
instance : HasF Tryz.prog 40 1 1 := ⟨_, _, 1, Tryz.underlying40, rfl, by kernel_rfl, rfl, rfl⟩
instance : HasL Tryz.prog 40 [(0, 1), (1, 1)] := ⟨_, Tryz.underlying40, fun w => by kernel_rfl⟩
instance : HasS Tryz.prog 40 2 := ⟨by kernel_rfl⟩
instance : HasB Tryz.prog 40 16 := ⟨by kernel_rfl⟩
instance : HasZ Tryz.prog 40 (.agg #[(.int .i64 0), (.int .i64 0)]) := ⟨by kernel_rfl⟩
instance : HasU Tryz.prog 42 (.struct (Ay Tryz.prog 42)) := ⟨by kernel_rfl⟩
instance : HasF Tryz.prog 42 0 0 := ⟨_, _, 1, Tryz.underlying42, rfl, by kernel_rfl, rfl, rfl⟩
instance : HasF Tryz.prog 42 1 1 := ⟨_, _, 1, Tryz.underlying42, rfl, by kernel_rfl, rfl, rfl⟩
instance : HasF Tryz.prog 42 2 2 := ⟨_, _, 2, Tryz.underlying42, rfl, by kernel_rfl, rfl, rfl⟩
instance : HasL Tryz.prog 42 [(0, 1), (1, 1), (2, 2)] := ⟨_, Tryz.underlying42, fun w => by kernel_rfl⟩
instance : HasS Tryz.prog 42 4 := ⟨by kernel_rfl⟩
instance : HasZ Tryz.prog 42 (.agg #[(.string ⟨#[]⟩), (.int .i64 0), (.int .i64 0), (.int .i64 0)]) := ⟨by kernel_rfl⟩
instance : HasU Tryz.prog 48 (.slice 67) := ⟨Tryz.underlying48⟩
instance : HasU Tryz.prog 49 (.slice 69) := ⟨Tryz.underlying49⟩
instance : HasU Tryz.prog 51 (.struct (Ay Tryz.prog 51)) := ⟨by kernel_rfl⟩
instance : HasF Tryz.prog 51 0 0 := ⟨_, _, 1, Tryz.underlying51, rfl, by kernel_rfl, rfl, rfl⟩
instance : HasF Tryz.prog 51 1 1 := ⟨_, _, 1, Tryz.underlying51, rfl, by kernel_rfl, rfl, rfl⟩
instance : HasF Tryz.prog 51 2 2 := ⟨_, _, 1, Tryz.underlying51, rfl, by kernel_rfl, rfl, rfl⟩
instance : HasF Tryz.prog 51 3 3 := ⟨_, _, 1, Tryz.underlying51, rfl, by kernel_rfl, rfl, rfl⟩
instance : HasS Tryz.prog 51 4 := ⟨by kernel_rfl⟩
instance : HasU Tryz.prog 56 (.slice 3) := ⟨Tryz.underlying56⟩
instance : HasS Tryz.prog 56 1 := ⟨by kernel_rfl⟩
instance : HasB Tryz.prog 56 24 := ⟨by kernel_rfl⟩
instance : HasZ Tryz.prog 56 (.slice none 0 0) := ⟨by kernel_rfl⟩
instance : HasU Tryz.prog 59 (.slice 40) := ⟨Tryz.underlying59⟩
instance : HasS Tryz.prog 59 1 := ⟨by kernel_rfl⟩
instance : HasB Tryz.prog 59 24 := ⟨by kernel_rfl⟩
instance : HasZ Tryz.prog 59 (.slice none 0 0) := ⟨by kernel_rfl⟩
instance : HasU Tryz.prog 64 (.slice 156) := ⟨Tryz.underlying64⟩
instance : HasU Tryz.prog 65 (.slice 112) := ⟨Tryz.underlying65⟩
instance : HasU Tryz.prog 67 (.struct (Ay Tryz.prog 67)) := ⟨by kernel_rfl⟩
instance : HasF Tryz.prog 67 0 0 := ⟨_, _, 1, Tryz.underlying67, rfl, by kernel_rfl, rfl, rfl⟩
instance : HasF Tryz.prog 67 1 1 := ⟨_, _, 1, Tryz.underlying67, rfl, by kernel_rfl, rfl, rfl⟩
instance : HasF Tryz.prog 67 2 2 := ⟨_, _, 1, Tryz.underlying67, rfl, by kernel_rfl, rfl, rfl⟩
instance : HasF Tryz.prog 67 3 3 := ⟨_, _, 1, Tryz.underlying67, rfl, by kernel_rfl, rfl, rfl⟩
instance : HasF Tryz.prog 67 4 4 := ⟨_, _, 1, Tryz.underlying67, rfl, by kernel_rfl, rfl, rfl⟩
instance : HasF Tryz.prog 67 5 5 := ⟨_, _, 1, Tryz.underlying67, rfl, by kernel_rfl, rfl, rfl⟩
instance : HasF Tryz.prog 67 6 6 := ⟨_, _, 1, Tryz.underlying67, rfl, by kernel_rfl, rfl, rfl⟩
instance : HasF Tryz.prog 67 7 7 := ⟨_, _, 1, Tryz.underlying67, rfl, by kernel_rfl, rfl, rfl⟩
instance : HasF Tryz.prog 67 8 8 := ⟨_, _, 1, Tryz.underlying67, rfl, by kernel_rfl, rfl, rfl⟩
instance : HasF Tryz.prog 67 9 9 := ⟨_, _, 1, Tryz.underlying67, rfl, by kernel_rfl, rfl, rfl⟩
instance : HasF Tryz.prog 67 10 10 := ⟨_, _, 1, Tryz.underlying67, rfl, by kernel_rfl, rfl, rfl⟩
instance : HasF Tryz.prog 67 11 11 := ⟨_, _, 1, Tryz.underlying67, rfl, by kernel_rfl, rfl, rfl⟩
instance : HasF Tryz.prog 67 12 12 := ⟨_, _, 1, Tryz.underlying67, rfl, by kernel_rfl, rfl, rfl⟩
instance : HasS Tryz.prog 67 13 := ⟨by kernel_rfl⟩
instance : HasZ Tryz.prog 67 (.agg #[(.string ⟨#[]⟩), (.int .i64 0), (.int .i64 0), (.int .i64 0), (.int .i64 0), (.slice none 0 0), (.int .i64 0), (.int .i64 0), (.int .i64 0), (.int .i64 0), (.int .i64 0), (.slice none 0 0), (.slice none 0 0)]) := ⟨by kernel_rfl⟩
instance : HasU Tryz.prog 69 (.struct (Ay Tryz.prog 69)) := ⟨by kernel_rfl⟩
instance : HasF Tryz.prog 69 0 0 := ⟨_, _, 1, Tryz.underlying69, rfl, by kernel_rfl, rfl, rfl⟩
instance : HasF Tryz.prog 69 1 1 := ⟨_, _, 1, Tryz.underlying69, rfl, by kernel_rfl, rfl, rfl⟩
instance : HasF Tryz.prog 69 2 2 := ⟨_, _, 1, Tryz.underlying69, rfl, by kernel_rfl, rfl, rfl⟩
instance : HasF Tryz.prog 69 3 3 := ⟨_, _, 1, Tryz.underlying69, rfl, by kernel_rfl, rfl, rfl⟩
instance : HasS Tryz.prog 69 4 := ⟨by kernel_rfl⟩
instance : HasZ Tryz.prog 69 (.agg #[(.string ⟨#[]⟩), (.int .i64 0), (.int .i64 0), (.int .i64 0)]) := ⟨by kernel_rfl⟩
instance : HasU Tryz.prog 73 (.struct (Ay Tryz.prog 73)) := ⟨by kernel_rfl⟩
instance : HasF Tryz.prog 73 0 0 := ⟨_, _, 1, Tryz.underlying73, rfl, by kernel_rfl, rfl, rfl⟩
instance : HasF Tryz.prog 73 1 1 := ⟨_, _, 1, Tryz.underlying73, rfl, by kernel_rfl, rfl, rfl⟩
instance : HasL Tryz.prog 73 [(0, 1), (1, 1)] := ⟨_, Tryz.underlying73, fun w => by kernel_rfl⟩
instance : HasS Tryz.prog 73 2 := ⟨by kernel_rfl⟩
instance : HasZ Tryz.prog 73 (.agg #[(.int .i64 0), (.string ⟨#[]⟩)]) := ⟨by kernel_rfl⟩
instance : HasU Tryz.prog 74 (.slice 73) := ⟨Tryz.underlying74⟩
instance : HasF Tryz.prog 80 0 0 := ⟨_, _, 2, Tryz.underlying80, rfl, by kernel_rfl, rfl, rfl⟩
instance : HasZ Tryz.prog 80 (.agg #[(.pointer none), (.slice none 0 0), (.int .i64 0)]) := ⟨by kernel_rfl⟩
instance : HasU Tryz.prog 110 (.slice 115) := ⟨Tryz.underlying110⟩
instance : HasU Tryz.prog 112 (.struct (Ay Tryz.prog 112)) := ⟨by kernel_rfl⟩
instance : HasF Tryz.prog 112 0 0 := ⟨_, _, 1, Tryz.underlying112, rfl, by kernel_rfl, rfl, rfl⟩
instance : HasF Tryz.prog 112 1 1 := ⟨_, _, 1, Tryz.underlying112, rfl, by kernel_rfl, rfl, rfl⟩
instance : HasF Tryz.prog 112 2 2 := ⟨_, _, 1, Tryz.underlying112, rfl, by kernel_rfl, rfl, rfl⟩
instance : HasS Tryz.prog 112 3 := ⟨by kernel_rfl⟩
instance : HasZ Tryz.prog 112 (.agg #[(.string ⟨#[]⟩), (.int .i64 0), (.int .i64 0)]) := ⟨by kernel_rfl⟩
instance : HasU Tryz.prog 115 (.struct (Ay Tryz.prog 115)) := ⟨by kernel_rfl⟩
instance : HasF Tryz.prog 115 0 0 := ⟨_, _, 1, Tryz.underlying115, rfl, by kernel_rfl, rfl, rfl⟩
instance : HasF Tryz.prog 115 1 1 := ⟨_, _, 1, Tryz.underlying115, rfl, by kernel_rfl, rfl, rfl⟩
instance : HasL Tryz.prog 115 [(0, 1), (1, 1)] := ⟨_, Tryz.underlying115, fun w => by kernel_rfl⟩
instance : HasS Tryz.prog 115 2 := ⟨by kernel_rfl⟩
instance : HasB Tryz.prog 115 16 := ⟨by kernel_rfl⟩
instance : HasZ Tryz.prog 115 (.agg #[(.int .i64 0), (.int .i64 0)]) := ⟨by kernel_rfl⟩
instance : HasU Tryz.prog 121 (.map 9 4) := ⟨Tryz.underlying121⟩
instance : HasS Tryz.prog 121 1 := ⟨by kernel_rfl⟩
instance : HasZ Tryz.prog 121 (.map none) := ⟨by kernel_rfl⟩
instance : HasU Tryz.prog 123 (.slice 20) := ⟨Tryz.underlying123⟩
instance : HasU Tryz.prog 129 (.slice 56) := ⟨Tryz.underlying129⟩
instance : HasS Tryz.prog 129 1 := ⟨by kernel_rfl⟩
instance : HasU Tryz.prog 130 (.slice 56) := ⟨Tryz.underlying130⟩
instance : HasU Tryz.prog 143 (.int .u64) := ⟨Tryz.underlying143⟩
instance : HasU Tryz.prog 151 (.struct (Ay Tryz.prog 151)) := ⟨by kernel_rfl⟩
instance : HasF Tryz.prog 151 0 0 := ⟨_, _, 1, Tryz.underlying151, rfl, by kernel_rfl, rfl, rfl⟩
instance : HasF Tryz.prog 151 1 1 := ⟨_, _, 1, Tryz.underlying151, rfl, by kernel_rfl, rfl, rfl⟩
instance : HasL Tryz.prog 151 [(0, 1), (1, 1)] := ⟨_, Tryz.underlying151, fun w => by kernel_rfl⟩
instance : HasS Tryz.prog 151 2 := ⟨by kernel_rfl⟩
instance : HasZ Tryz.prog 151 (.agg #[(.int .u64 0), (.int .u64 0)]) := ⟨by kernel_rfl⟩
instance : HasU Tryz.prog 156 (.struct (Ay Tryz.prog 156)) := ⟨by kernel_rfl⟩
instance : HasF Tryz.prog 156 0 0 := ⟨_, _, 1, Tryz.underlying156, rfl, by kernel_rfl, rfl, rfl⟩
instance : HasF Tryz.prog 156 1 1 := ⟨_, _, 1, Tryz.underlying156, rfl, by kernel_rfl, rfl, rfl⟩
instance : HasF Tryz.prog 156 2 2 := ⟨_, _, 1, Tryz.underlying156, rfl, by kernel_rfl, rfl, rfl⟩
instance : HasF Tryz.prog 156 3 3 := ⟨_, _, 1, Tryz.underlying156, rfl, by kernel_rfl, rfl, rfl⟩
instance : HasF Tryz.prog 156 4 4 := ⟨_, _, 1, Tryz.underlying156, rfl, by kernel_rfl, rfl, rfl⟩
instance : HasF Tryz.prog 156 5 5 := ⟨_, _, 1, Tryz.underlying156, rfl, by kernel_rfl, rfl, rfl⟩
instance : HasF Tryz.prog 156 6 6 := ⟨_, _, 1, Tryz.underlying156, rfl, by kernel_rfl, rfl, rfl⟩
instance : HasS Tryz.prog 156 7 := ⟨by kernel_rfl⟩
instance : HasZ Tryz.prog 156 (.agg #[(.string ⟨#[]⟩), (.int .i64 0), (.int .i64 0), (.int .i64 0), (.int .i64 0), (.int .i64 0), (.int .i64 0)]) := ⟨by kernel_rfl⟩
instance : HasU Tryz.prog 173 (.struct (Ay Tryz.prog 173)) := ⟨by kernel_rfl⟩
instance : HasF Tryz.prog 173 0 0 := ⟨_, _, 1, Tryz.underlying173, rfl, by kernel_rfl, rfl, rfl⟩
instance : HasF Tryz.prog 173 1 1 := ⟨_, _, 1, Tryz.underlying173, rfl, by kernel_rfl, rfl, rfl⟩
instance : HasF Tryz.prog 173 2 2 := ⟨_, _, 1, Tryz.underlying173, rfl, by kernel_rfl, rfl, rfl⟩
instance : HasF Tryz.prog 173 3 3 := ⟨_, _, 1, Tryz.underlying173, rfl, by kernel_rfl, rfl, rfl⟩
instance : HasL Tryz.prog 173 [(0, 1), (1, 1), (2, 1), (3, 1), (4, 1)] := ⟨_, Tryz.underlying173, fun w => by kernel_rfl⟩
instance : HasS Tryz.prog 173 5 := ⟨by kernel_rfl⟩
instance : HasZ Tryz.prog 173 (.agg #[(.slice none 0 0), (.int .i64 0), (.slice none 0 0), (.slice none 0 0), (.bool false)]) := ⟨by kernel_rfl⟩
instance : HasU Tryz.prog 235 (.slice 59) := ⟨Tryz.underlying235⟩
instance : HasU Tryz.prog 238 (.int .u64) := ⟨Tryz.underlying238⟩
instance : HasU Tryz.prog 283 (.map 9 284) := ⟨Tryz.underlying283⟩
instance : HasL Tryz.prog 284 [] := ⟨_, Tryz.underlying284, fun w => by kernel_rfl⟩
instance : HasZ Tryz.prog 284 (.agg #[]) := ⟨by kernel_rfl⟩
end Go.Proofs.YtcfjofhapbkmfaaGreatDoor
